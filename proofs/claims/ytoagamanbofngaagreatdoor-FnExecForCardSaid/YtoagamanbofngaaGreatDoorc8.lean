/- Texts joined. No conditions. -/
import Derived.OpenShut
import Derived.Carry
import Derived.ChangeOld
import Derived.RowKit
import Derived.LaidMore
import Derived.LaidSub
import Derived.MakeChecks
import Derived.Test.YtoagamanbofngaaGreatDoorc7
namespace Go.Proofs.YtoagamanbofngaaGreatDoor
noncomputable section
set_option linter.defProp false
open _root_.Inhabited renaming default -> aad
open _root_.Bool renaming true -> aae
open _root_.Bool renaming false -> aaf
open _root_.Option renaming some -> aag
open _root_.Option renaming none -> aah
open _root_.Decidable renaming decide -> aai
open _root_.Go.Proofs.Tryz
open _root_.Go.Proofs.Tryz renaming prog -> aaj
open _root_.List renaming replicate -> afk,length_set -> afl,getElem?_map -> afm,getElem?_set_ne -> afo,length_replicate -> afp,take_of_length_le -> afr
open _root_.Nat renaming not_lt_zero -> afn,lt_of_succ_lt_succ -> afq
set_option maxHeartbeats 4000000
open Go.RowKit
set_option maxRecDepth 100000
attribute [local irreducible] T TO TF TG TX ZT EvA
theorem DN{q}(h:lF=aag q):aF aaj 61 [] (eL cS q):=by
 refine aF.mkT func61 Z (by kernel_rfl) Z (by kernel_rfl) (e0:=ak []) ZQ<|jI ?_;refine go h λ_ h=>?_;refine oN (ZT.mkF (c:=cS) ([(⟨#[97,99,121,99,108,105,99,32,112,111,124,114,102,124,99,111,124,102,114]⟩:BA),(⟨#[97,99,121,99,108,105,99,32,112,111,38,108,111,99,124,114,102,124,99,111,124,102,114,47,97,99,121,99,108,105,99,32,112,111,45,119,114,124,102,101,110,99,101,124,114,102,38,101,120,116,124,99,111,124,102,114,47,105,114,114,101,102,32,102,114,59,99,111]⟩:BA),(⟨#[97,99,121,99,108,105,99,32,112,111,38,108,111,99,124,114,102,124,99,111,124,102,114,47,97,99,121,99,108,105,99,32,112,111,45,40,119,114,124,119,119,41,124,102,101,110,99,101,124,114,102,38,101,120,116,124,99,111,124,102,114,47,105,114,114,101,102,32,102,114,59,99,111]⟩:BA),(⟨#[97,99,121,99,108,105,99,32,112,111,124,114,102,47,97,99,121,99,108,105,99,32,43,40,112,111,124,114,102,41,38,108,111,99,124,99,111,124,102,114,47,105,114,114,101,102,32,102,114,59,99,111]⟩:BA),(⟨#[97,99,121,99,108,105,99,32,112,111,38,108,111,99,124,114,102,124,99,111,124,102,114]⟩:BA),(⟨#[101,109,112,116,121,32,112,111]⟩:BA),(⟨#[105,114,114,101,102,32,126,114,102,59,99,111]⟩:BA)]:List BA) [[St (⟨#[97,99,121,99,108,105,99,32,112,111,124,114,102,124,99,111,124,102,114]⟩:BA)],[St (⟨#[97,99,121,99,108,105,99,32,112,111,38,108,111,99,124,114,102,124,99,111,124,102,114,47,97,99,121,99,108,105,99,32,112,111,45,119,114,124,102,101,110,99,101,124,114,102,38,101,120,116,124,99,111,124,102,114,47,105,114,114,101,102,32,102,114,59,99,111]⟩:BA)],[St (⟨#[97,99,121,99,108,105,99,32,112,111,38,108,111,99,124,114,102,124,99,111,124,102,114,47,97,99,121,99,108,105,99,32,112,111,45,40,119,114,124,119,119,41,124,102,101,110,99,101,124,114,102,38,101,120,116,124,99,111,124,102,114,47,105,114,114,101,102,32,102,114,59,99,111]⟩:BA)],[St (⟨#[97,99,121,99,108,105,99,32,112,111,124,114,102,47,97,99,121,99,108,105,99,32,43,40,112,111,124,114,102,41,38,108,111,99,124,99,111,124,102,114,47,105,114,114,101,102,32,102,114,59,99,111]⟩:BA)],[St (⟨#[97,99,121,99,108,105,99,32,112,111,38,108,111,99,124,114,102,124,99,111,124,102,114]⟩:BA)],[St (⟨#[101,109,112,116,121,32,112,111]⟩:BA)],[St (⟨#[105,114,114,101,102,32,126,114,102,59,99,111]⟩:BA)]] Ur Z Z Z qE qE Z) ?_;exact gz h
instance O0:Ct aaj (lF ) 61 [] (eL cS):=⟨DN⟩
theorem ET{q}(h:iE=aag q):aF aaj 126 [] (eL cS q):=by
 refine aF.mkT func126 Z (by kernel_rfl) Z (by kernel_rfl) (e0:=ak []) ZQ<|jI ?_;refine go h λ_ h=>?_;refine oN (ZT.mkF (c:=cS) ([(⟨#[]⟩:BA),(⟨#[97,99,121,99,108,105,99]⟩:BA),(⟨#[105,114,114,101,102]⟩:BA),(⟨#[101,109,112,116,121]⟩:BA)]:List BA) [[St (⟨#[]⟩:BA)],[St (⟨#[97,99,121,99,108,105,99]⟩:BA)],[St (⟨#[105,114,114,101,102]⟩:BA)],[St (⟨#[101,109,112,116,121]⟩:BA)]] Ur Z Z Z qE qE Z) ?_;exact gz h
instance Pt:Ct aaj (iE ) 126 [] (eL cS):=⟨ET⟩
instance Uy(s:BA)(at_:Int)(c:Int):Ct aaj (uL s at_ c) 268 [St s,I at_,Y c] Bo:=ctp func268 λq h=>az h
theorem xE(eH:BA->Int->Int->Int->Option (aa×Int))(ih186:∀(s:BA)(at_:Int)(depth:Int)(level:Int){q},eH s at_ depth level=aag q->aF aaj 186 [St s,I at_,I depth,I level] (.tup [.agg (aa.c q.1),I q.2])):∀(nf:Nat)(s:BA)(at_:Int)(depth:Int){q:aa×Int}(h:dA eH nf s at_ depth=aag q),aF aaj 236 [St s,I at_,I depth] (.tup [.agg (aa.c q.1),I q.2]):=by
 intro nf
 induction nf with
 |zero=>intros;rename_i h;cases h
 |succ nf ih=>
  intro s at_ depth q h;replace h:gF eH (dA eH nf) s at_ depth=aag q:=h;refine pM func236 Z (by kernel_rfl) Z<|go h λ_ h=>?_;refine gs h λ_ h=>?_;refine gB [6,0,1,2] h 3 (λs1 k=>(19,Bo s1)::k) λs1 h=>?_;refine go h λ_ h=>?_;refine gB [6,0,1,2] h 5 (λs3 k=>(25,Bo s3)::k) λs3 h=>?_;refine gx h λq5 h=>?_;refine go h λ_ h=>?_;refine gs h λf h=>?_;obtain⟨g6,_⟩:=f;refine jN Z h (λq7 h=>?_) λq7 h=>?_
  .refine go h λ_ h=>?_;refine oC h (λ_=>ih186 _ _ _ _) Z Z Z Z λv9 _ h=>(go h λ_ h=>?_);refine gC h λv10 h=>?_;refine gi h (λ_ q11 h=>?_) λ_ q11 h=>?_
   .exact gf h
   exact gf h
  refine qV [6,0,1,2] h (λs13 k=>(48,Bo s13)::k) (λs13 h=>?_) λs13 h=>?_
  .refine jN Z h (λq15 h=>?_) λq15 h=>?_
   .refine go h λ_ h=>?_;refine qV [6,0,1,2] h (λs16 k=>(10,I s16)::k) (λs16 h=>?_) λs16 h=>?_
    .refine go h λ_ h=>?_;refine oC h (λ_=>ih _ _ _) Z Z Z Z λv20 _ h=>(go h λ_ h=>?_);refine oN (ZT.res (ZT.mkF (c:=aa.c) ([(⟨v20.1.Op,v20.1.Name,v20.1.Kids⟩:aa)]:List aa) [(aa.c v20.1)] Je Z Z Z qE aa.isF Z) (r':=eL ZTE.c ([(⟨v20.1.Op,v20.1.Name,v20.1.Kids⟩:aa).inn]:List ZTE)) λ_ _ hr=>CO aa.inn_c hr) ?_;exact gf h
    refine gi h (λ_ q17 h=>?_) λ_ q17 h=>?_
    .refine go h λ_ h=>?_
     cases h
     exact⟨(),trivial,Z9⟩
    refine go h λ_ h=>?_
    cases h
    exact⟨(),trivial,Z9⟩
   refine go h λ_ h=>?_;refine qV [6,0,1] h (λs21 k=>(13,I s21)::k) (λs21 h=>?_) λs21 h=>?_
   .refine gsi h (λ_ q34 h=>?_) λ_ q34 h=>?_
    .exact gf h
    exact gf h
   refine go h λ_ h=>?_;refine qU [6,0,1] h (λs24 k=>(13,I s24)::k) λs24 ws24 h=>?_;refine gs h λ_ h=>?_;refine gB [13,6,0,1] h 5 (λs26 k=>(79,Bo s26)::k) λs26 h=>?_;refine go h λ_ h=>?_;refine gB [13,6,0,1] h 5 (λs29 k=>(85,Bo s29)::k) λs29 h=>?_;refine gy h λq32 h=>?_;refine go h λ_ h=>?_;exact lE h Z9
  refine gi h (λ_ q14 h=>?_) λ_ q14 h=>?_
  .refine go h λ_ h=>?_
   cases h
   exact⟨(),trivial,Z9⟩
  refine go h λ_ h=>?_
  cases h
  exact⟨(),trivial,Z9⟩
theorem yN(eH:BA->Int->Int->Int->Option (aa×Int))(ih186:∀(s:BA)(at_:Int)(depth:Int)(level:Int){q},eH s at_ depth level=aag q->aF aaj 186 [St s,I at_,I depth,I level] (.tup [.agg (aa.c q.1),I q.2]))(s:BA)(at_:Int)(depth:Int){q:aa×Int}(h:mq eH s at_ depth=aag q):aF aaj 236 [St s,I at_,I depth] (.tup [.agg (aa.c q.1),I q.2]):=by
 obtain⟨nf,h⟩:=nz h;exact xE eH ih186 nf s at_ depth h
instance Pu(op:Int):Ct aaj (ku op) 240 [I op] I:=ctp func240 λq h=>az h
instance SA(op:Int):Ct aaj (l7 op) 238 [I op] St:=ctp func238 λq h=>by
 refine go h λ_ h=>?_;refine oN (ZT.mkF (c:=cS) ([(⟨#[]⟩:BA),(⟨#[]⟩:BA),(⟨#[124]⟩:BA),(⟨#[38]⟩:BA),(⟨#[45]⟩:BA),(⟨#[59]⟩:BA),(⟨#[126]⟩:BA),(⟨#[43]⟩:BA)]:List BA) [[St (⟨#[]⟩:BA)],[St (⟨#[]⟩:BA)],[St (⟨#[124]⟩:BA)],[St (⟨#[38]⟩:BA)],[St (⟨#[45]⟩:BA)],[St (⟨#[59]⟩:BA)],[St (⟨#[126]⟩:BA)],[St (⟨#[43]⟩:BA)]] Ur Z Z Z qE qE Z) ?_;exact gz h
instance Uz(s:BA)(at_:Int)(level:Int):Ct aaj (xj s at_ level) 237 [St s,I at_,I level] I:=ctp func237 λq h=>by
 refine go h λ_ h=>?_;refine qS [] h (λs1 k=>k) (λs1 h=>?_) λKs1 ws1 h ks1=>?_
 .exact az h
 refine go h λ_ h=>?_;refine qU [0,1,2] h (λs4 k=>(7,I s4)::k) λs4 ws4 h=>?_;exact az h
theorem DR:∀(nf:Nat)(s:BA)(at_:Int)(depth:Int)(level:Int){q}(h:j6 nf s at_ depth level=aag q),aF aaj 186 [St s,I at_,I depth,I level] (.tup [.agg (aa.c q.1),I q.2]):=by
 intro nf
 induction nf with
 |zero=>intros;rename_i h;cases h
 |succ nf ih=>
  intro s at_ depth level q h;replace h:nu (j6 nf) s at_ depth level=aag q:=h;refine pM func186 Z (by kernel_rfl) Z<|go h λ_ h=>?_;refine gsi h (λ_ q1 h=>?_) λ_ q1 h=>?_
  .refine go h λ_ h=>?_;refine oC h (λ_=>yN _ ih _ _ _) Z Z Z Z λv2 _ h=>?_;exact gf h
  refine go h λf h=>?_;obtain⟨g3,_⟩:=f;refine oC h (λ_=>ih _ _ _ _) Z Z Z Z λv4 _ h=>(go h λ_ h=>?_);obtain⟨Ks5,es5,ws5,h,ks5⟩:=II h;refine T.join (S:=Int×ByteArray×(List ZTE)) (G:=Unit) (λs5=>Ks5 s5=aag q) (λs5 gh=>True) (λs5 gh=>[(8,.hp 0 0 3 0 0)]) (λs5 gh=>[aag ⟨0,3,68,[[I U,St (⟨#[]⟩:BA),.nil]]⟩,aag ⟨0,3,68,[[I s5.1,St s5.2.1,eL ZTE.c s5.2.2]]⟩]) (λs5 gh h hg=>?_) ?_
  .exact az h
  refine go h λ_ h=>?_;refine kU [10,8,0,2,3] h (λs8 k=>(11,I s8.2.2.2)::k) (λs8=>[aag ⟨0,3,68,[[I U,St (⟨#[]⟩:BA),.nil]]⟩,aag ⟨0,3,68,[[I s8.1,St s8.2.1,eL ZTE.c s8.2.2.1]]⟩]) λs8 ws8 h=>?_;refine gsi h (λ_ q10 h=>?_) λ_ q10 h=>?_
  .refine gC h λv11 h=>?_;refine gx h λq12 h=>?_;refine go h λ_ h=>?_;refine oC h (λ_=>ih _ _ _ _) Z Z Z Z λv14 _ h=>(go h λ_ h=>?_);refine oN (ZT.res (ZT.mkF (c:=aa.c) ([(⟨s8.1,s8.2.1,s8.2.2.1⟩:aa),(⟨v14.1.Op,v14.1.Name,v14.1.Kids⟩:aa)]:List aa) [[I s8.1,St s8.2.1,eL ZTE.c s8.2.2.1],(aa.c v14.1)] Je Z Z Z qE aa.isF Z) (r':=eL ZTE.c ([(⟨s8.1,s8.2.1,s8.2.2.1⟩:aa).inn,(⟨v14.1.Op,v14.1.Name,v14.1.Kids⟩:aa).inn]:List ZTE)) λ_ _ hr=>CO aa.inn_c hr)<|go h λ_ h=>?_;exact lE h Z9
  refine jM<|lX h λh=>?_;obtain rfl:=ZV h;exact⟨(s8.1,s8.2.1,s8.2.2.1),(),ks5,trivial,Z9⟩
theorem EU(s:BA)(at_:Int)(depth:Int)(level:Int){q}(h:rz s at_ depth level=aag q):aF aaj 186 [St s,I at_,I depth,I level] (.tup [.agg (aa.c q.1),I q.2]):=by
 obtain⟨nf,h⟩:=nz h;exact DR nf s at_ depth level h
instance Pv(s:BA)(at_:Int)(depth:Int)(level:Int):Ct aaj (rz s at_ depth level) 186 [St s,I at_,I depth,I level] (λq=>.tup [.agg (aa.c q.1),I q.2]):=⟨EU s at_ depth level⟩
theorem lQ(zG:aa->Option BA)(ih188:∀(e_:aa){q},zG e_=aag q->aF aaj 188 [.agg (aa.c e_)] (St q))(e_:aa)(level:Int){q:BA}(h:dR zG e_ level=aag q):aF aaj 239 [.agg (aa.c e_),I level] (St q):=by
 refine pM func239 Z (by kernel_rfl) Z<|go h λ_ h=>?_;refine eF Z Z Z<|go h λ_ h=>?_;refine gC h λv1 h=>?_;refine gi h (λ_ q2 h=>?_) λ_ q2 h=>?_
 .refine go h λ_ h=>?_;refine oC h (λ_=>ih188 _) Z Z Z Z λv3 _ h=>?_;exact gz h
 refine go h λ_ h=>?_;refine oC h (λ_=>ih188 _) Z Z Z Z λv6 _ h=>?_;exact gz h
theorem EW:∀(nf:Nat)(e_:aa){q}(h:lG nf e_=aag q),aF aaj 188 [.agg (aa.c e_)] (St q):=by
 intro nf
 induction nf with
 |zero=>intros;rename_i h;cases h
 |succ nf ih=>
  intro e_ q h;replace h:pg (lG nf) e_=aag q:=h;refine pM func188 Z (by kernel_rfl) Z<|go h λ_ h=>?_;refine eF Z Z Z<|go h λ_ h=>?_;refine gC h λv1 h=>?_;refine gx h λq2 h=>?_;refine gi h (λ_ q3 h=>?_) λ_ q3 h=>?_
  .refine jH<|T.drawP (by kernel_rfl) (by kernel_rfl) ?_;refine gC h λv4 h=>?_;refine jD h λg5 h=>fN Z (ZT.res (ZT.ixL Je Z Z g5 ZTE.len) (r':=.fp (aa.c (J e_.Kids U).out) 0) λ_ _ hr=>vP (ZTE.out_c _) hr)<|go h λ_ h=>?_;refine fC h (λ_=>lQ _ ih _ _) Z Z Z Z Z λv6 _ h=>?_;exact gz h
  refine gC h λv8 h=>?_;refine jH<|T.drawP (by kernel_rfl) (by kernel_rfl) ?_;refine go h λ_ h=>?_;refine jD h λg9 h=>fN Z (ZT.res (ZT.ixL Je Z Z g9 ZTE.len) (r':=.fp (aa.c (J e_.Kids U).out) 0) λ_ _ hr=>vP (ZTE.out_c _) hr)<|go h λ_ h=>?_;refine fC h (λ_=>lQ _ ih _ _) Z Z Z Z Z λv10 _ h=>(gC h λv11 h=>?_);refine jD h λg13 h=>fN Z (ZT.res (ZT.ixL Je Z Z g13 ZTE.len) (r':=.fp (aa.c (J e_.Kids V).out) 0) λ_ _ hr=>vP (ZTE.out_c _) hr)<|go h λ_ h=>?_;refine fC h (λ_=>lQ _ ih _ _) Z Z Z Z Z λv15 _ h=>?_;exact gz h
theorem GF(e_:aa){q}(h:pq e_=aag q):aF aaj 188 [.agg (aa.c e_)] (St q):=by
 obtain⟨nf,h⟩:=nz h;exact EW nf e_ h
instance SB(e_:aa):Ct aaj (pq e_) 188 [.agg (aa.c e_)] St:=⟨GF e_⟩
instance Jw(e_:aa):Ct aaj (iJ e_) 187 [.agg (aa.c e_)] St:=ctp func187 λq h=>az h
instance KL(text:BA):Ct aaj (jv text) 127 [St text] (λq=>.tup [.agg (aa.c q.1),Bo q.2]):=ctp func127 λq h=>by
 refine gx h λq1 h=>?_;exact az h
instance EX(m:List ah):Ct aaj (mS m) 128 [eL ah.c m] St:=ctp func128 λq h=>by
 refine go h λ_ h=>?_;refine qV [] h (λs1 k=>(3,St s1)::k) (λs1 h=>?_) λs1 h=>?_
 .exact az h
 refine go h λ_ h=>?_;refine qU [0] h (λs4 k=>(4,I s4.1)::(3,St s4.2)::k) λs4 ws4 h=>?_;exact az h
theorem EY(m:List ah){q}(h:mS m=aag q):aF aaj 128 [eL ah.c m] (St q):=(EX m).c h
instance Mq(text:BA):Ct aaj (iX text) 62 [St text] (λq=>.tup [eL ah.c q.1,Bo q.2]):=ctp func62 λq h=>by
 refine go h λ_ h=>?_;refine oA (EvA.mkO (c:=ah.c) ([]:List ah) [] Im Z Z Z qE Z Z)<|gC h λv1 h=>?_;obtain⟨Ks2,es2,ws2,h,ks2⟩:=II h;refine T.join (S:=(List ah)) (G:=Nat) (λs2=>Ks2 s2=aag q) (λs2 gh=>True) (λs2 gh=>[(4,hS aaf 0 gh 4 s2.length),(0,St text)]) (λs2 gh=>[bE aaf gh 4 70 (s2.map ah.c)]) (λs2 u37 h hg=>?_) ?_
 .clear ks2;subst es2;refine gs h λ_ h=>?_;refine jB h λv38 cv38 h=>oA (EvA.callT Z Z (uW s2 cv38) (.cons (Fz.own (g:=false) (ver:=u37) (l:=s2) Z Z Z nofun ah.isF) .nil) Z)<|go h λ_ h=>?_;refine qB [4] h 5 (λs39 k=>(80,Bo s39)::k) (λs39 q40 h js39=>?_) (λs39 q40 h js39=>?_) λs39 h=>?_
  .exact gj h js39
  .refine go h λ_ h=>?_;refine jB h λv41 cv41 h=>gA Z q40 (EvA.callT Z Z (EY s2 cv41) (.cons (Fz.own (g:=false) (ver:=u37) (l:=s2) Z Z Z nofun ah.isF) .nil) Z) ?_;exact gj h js39
  refine gy h λq42 h=>?_;refine go h λ_ h=>?_;refine oN (ZT.mkF (c:=ah.c) ([]:List ah) [] Im Z Z Z qE ah.isF Z) ?_;exact gf h
 refine go h λ_ h=>?_;refine kT [5,0] h 0 (λs6 gh k=>(6,I s6.2)::(4,hS aaf 0 gh 4 s6.1.length)::k) (λs6 gh=>[bE aaf gh 4 70 (s6.1.map ah.c)]) λs6 u8 ws6 h=>?_;refine gs h λ_ h=>?_;refine qB [6,5,4,0] h 3 (λs9 k=>(22,Bo s9)::k) (λs9 q10 h js9=>?_) (λs9 q10 h js9=>?_) λs9 h=>?_
 .exact gj h js9
 .exact gj h js9
 refine gi h (λ_ q11 h=>?_) λ_ q11 h=>?_
 .refine go h λ_ h=>?_;obtain⟨Ks12,es12,ws12,h,ks12⟩:=II h;refine T.join (S:=(List ah)) (G:=Nat) (λs12=>Ks12 s12=aag ws6) (λs12 gh=>True) (λs12 gh=>[(4,hS aaf 0 gh 4 s12.length),(6,I s6.2),(5,eL cS v1),(0,St text)]) (λs12 gh=>[bE aaf gh 4 70 (s12.map ah.c)]) (λs12 u35 h hg=>?_) ?_
  .exact az h
  refine gC h λv14 h=>?_;refine kV [8,7,6,5,4,0] h (λs15 k=>k) (λs15=>[bE aaf u8 4 70 (s6.1.map ah.c),aag ⟨0,4,70,[[I s15,I U,St (⟨#[]⟩:BA),.nil]]⟩]) (λs15 h=>?_) λs15 h=>?_
  .refine gs h λ_ h=>?_;refine qB [8,7,6,5,4,0] h 4 (λs28 k=>(54,Bo s28)::k) (λs28 q29 h js28=>?_) (λs28 q29 h js28=>?_) λs28 h=>?_
   .exact gj h js28
   .refine go h λ_ h=>?_;refine gA Z q29 (lh (I s15) Z8 Z Z Z) ?_;exact gj h js28
   refine gi h (λ_ q30 h=>?_) λ_ q30 h=>?_
   .refine go h λ_ h=>?_;refine oN (ZT.mkF (c:=ah.c) ([]:List ah) [] Im Z Z Z qE ah.isF Z)<|go h λ_ h=>?_;obtain rfl:=ZV h;replace h:=congrArg aag (show _=_ from ks12);refine lX h λh=>?_;obtain rfl:=ZV h;replace h:=congrArg aag (show _=_ from ks2);exact gf h
   refine gC h λv32 h=>?_;refine gsi h (λ_ q33 h=>?_) λ_ q33 h=>?_
   .refine go h λ_ h=>?_;refine oN (ZT.mkF (c:=ah.c) ([]:List ah) [] Im Z Z Z qE ah.isF Z)<|go h λ_ h=>?_;obtain rfl:=ZV h;replace h:=congrArg aag (show _=_ from ks12);refine lX h λh=>?_;obtain rfl:=ZV h;replace h:=congrArg aag (show _=_ from ks2);exact gf h
   refine go h λ_ h=>?_;refine oN (ZT.mkF (c:=ah.c) ([(⟨s15,(⟨v32.1.Op,v32.1.Name,v32.1.Kids⟩:aa)⟩:ah)]:List ah) [(ah.c (⟨s15,v32.1⟩:ah))] Im Z Z Z qE ah.isF Z)<|go h λ_ h=>?_;obtain rfl:=ZV h;exact⟨(s6.1++[(⟨s15,(⟨v32.1.Op,v32.1.Name,v32.1.Kids⟩:aa)⟩:ah)]),u8+1,ks12,trivial,Z9⟩
  refine go h λ_ h=>?_;refine kU [8,7,6,5,4,0] h (λs18 k=>(9,I s18.2)::k) (λs18=>[bE aaf u8 4 70 (s6.1.map ah.c),aag ⟨0,4,70,[[I s18.1,I U,St (⟨#[]⟩:BA),.nil]]⟩]) λs18 ws18 h=>?_;refine gC h λv20 h=>?_;refine gi h (λ_ q21 h=>?_) λ_ q21 h=>?_
  .refine go h λ_ h=>?_;refine kV [9,8,7,6,5,4,0] h (λs22 k=>k) (λs22=>[bE aaf u8 4 70 (s6.1.map ah.c),aag ⟨0,4,70,[[I s22,I U,St (⟨#[]⟩:BA),.nil]]⟩]) (λs22 h=>?_) λs22 h=>?_
   .refine go h λ_ h=>?_;exact lE h Z9
   refine go h λ_ h=>?_;refine jH<|T.drawP (by kernel_rfl) (by kernel_rfl) ?_;refine gC h λv24 h=>?_;refine gi h (λ_ q26 h=>?_) λ_ q26 h=>?_
   .refine go h λ_ h=>?_
    cases h
    exact⟨(),trivial,Z9⟩
   refine go h λ_ h=>?_
   cases h
   exact⟨(),trivial,Z9⟩
  refine jM<|lX h λh=>?_
  cases h
  exact⟨(),trivial,Z9⟩
 refine jM<|lX h λh=>?_;obtain rfl:=ZV h;exact⟨s6.1,u8,ks2,trivial,Z9⟩
theorem EZ(r_:ae)(aW:Nat){q}(h:rA r_=aag q):eZ aaj 25 [.hp 0 aW 2 0 0] [aag ⟨aW,2,80,[(ae.c r_)]⟩] (eL ah.c q.2) [aag ⟨aW,2,80,[[eL cY q.1.b,I q.1.p]]⟩]:=by
 refine aM func25 Z (by kernel_rfl) Z<|gC h λv1 h=>?_;refine gs h λ_ h=>?_;refine jB h λv2 cv2 h=>oA (EvA.call Z Z Z<|(ax (⟨r_.b,r_.p⟩:ae) (3:Int) aW cv2).one 0 Z (.cons (.hp Z)<|.cons (.pF Z) .nil) (au Z) (au Z) Z) ?_;refine gi h (λ_ q3 h=>?_) λ_ q3 h=>?_
 .refine go h λ_ h=>?_;refine jB h λv4 cv4 h=>oA (EvA.call Z Z Z<|(ax (⟨v2.1.b,v2.1.p⟩:ae) (v1.length:Int) aW cv4).one 0 Z (.cons (.hp Z)<|.cons (.pF Z) .nil) (au Z) (au Z) Z)<|gC h λv6 h=>?_;obtain rfl:=ZV h
  repeat (first|refine pG ?_|refine pI ?_)
  exact⟨ak [(2,eL ah.c v6.1)],[aag ⟨aW,2,80,[(ae.c (⟨v4.1.b,v4.1.p⟩:ae))]⟩],Z9,jQ (vs:=[eL ah.c v6.1]) (.cons (.tmp Z) .nil) ⟨Z,Z⟩⟩
 refine go h λ_ h=>?_;refine oA (EvA.mkO (c:=ah.c) ([]:List ah) [] Im Z Z Z qE Z Z)<|go h λ_ h=>?_;refine tJ h (λs7 gh=>[(6,hS aaf 1 gh 4 s7.2.2.length)]) (λs7 gh=>[aag ⟨aW,2,80,[[eL cY s7.1,I s7.2.1]]⟩,bE aaf gh 4 70 (s7.2.2.map ah.c)]) (λs7 u22 h=>?_) λs7 h=>?_
 .refine go h λ_ h=>?_;obtain rfl:=ZV h
  repeat (first|refine pG ?_|refine pI ?_)
  exact⟨ak [(2,eL ah.c s7.2.2)],[aag ⟨aW,2,80,[(ae.c (⟨s7.1,s7.2.1⟩:ae))]⟩],Z9,jQ (vs:=[eL ah.c s7.2.2]) (.cons (.tmp Z) .nil) ⟨Z,Z⟩⟩
 refine go h λ_ h=>?_;refine jB h λv8 cv8 h=>oA (EvA.call Z Z Z<|(ax (⟨v2.1.b,v2.1.p⟩:ae) (2:Int) aW cv8).one 0 Z (.cons (.hp Z)<|.cons (.pF Z) .nil) (au Z) (au Z) Z)<|go h λ_ h=>?_;refine kT [0] h 0 (λs13 gh k=>(7,I s13.2.2.2)::(6,hS aaf 1 gh 4 s13.2.2.1.length)::k) (λs13 gh=>[aag ⟨aW,2,80,[[eL cY s13.1,I s13.2.1]]⟩,bE aaf gh 4 70 (s13.2.2.1.map ah.c)]) λs13 u15 ws13 h=>?_;refine gy h λq16 h=>?_;refine go h λ_ h=>?_;refine gs h λ_ h=>?_;refine jB h λv17 cv17 h=>oA (EvA.call Z Z Z<|(ax (⟨s13.1,s13.2.1⟩:ae) (3:Int) aW cv17).one 0 Z (.cons (.hp Z)<|.cons (.pF Z) .nil) (au Z) (au Z) Z)<|go h λ_ h=>?_;refine jB h λv19 cv19 h=>oA (EvA.call Z Z Z<|(zF (⟨v17.1.b,v17.1.p⟩:ae) (3:Int) aW cv19).one 0 Z (.cons (.hp Z)<|.cons (.pF Z) .nil) (au Z) (au Z) Z)<|go h λ_ h=>?_;refine oN (ZT.mkF (c:=ah.c) ([(⟨(V+v17.2),(⟨v19.2.Op,v19.2.Name,v19.2.Kids⟩:aa)⟩:ah)]:List ah) [(ah.c (⟨(V+v17.2),v19.2⟩:ah))] Im Z Z Z qE ah.isF Z)<|go h λ_ h=>?_;obtain rfl:=ZV h;exact⟨(v19.1.b,v19.1.p,(s13.2.2.1++[(⟨(V+v17.2),(⟨v19.2.Op,v19.2.Name,v19.2.Kids⟩:aa)⟩:ah)]),(s13.2.2.2-V)),u15+1,Z,trivial,Z9⟩
theorem Ae(r_:ae)(m:List ah)(aW:Nat){q}(h:kW r_ m=aag q):eZ aaj 24 [.hp 0 aW 2 0 0,eL ah.c m] [aag ⟨aW,2,80,[(ae.c r_)]⟩] (eL ah.c q.2) [aag ⟨aW,2,80,[[eL cY q.1.b,I q.1.p]]⟩]:=by
 refine aM func24 Z (by kernel_rfl) Z<|jI<|oN as'<|jA<|jI<|oA (EvA.mkO (c:=ah.c) ([]:List ah) [] Im Z Z Z qE Z Z)<|oN mv<|jL h λg1 h=>oA (EvA.appF (l:=([]:List ah)) m Im (by kernel_rfl) Z Z Z (bH.fz (l:=m) Z qE) g1)<|oN (ZT.asg (hS aaf 1 (0+1) 4<|(([]:List ah)++m).length) Z)<|jA ?_;refine T.jF (G:=Nat) h (λs2 gh=>True) (λs2 gh=>[(5,eL ah.c s2.2.2.2)]) (λs2 gh=>[aag ⟨aW,2,80,[[eL cY s2.1,I s2.2.1]]⟩]) (λs2 u21 h hg=>?_) λs2 h=>?_
 .refine jI<|oN mv<|oN as'<|jA<|jK ?_;obtain rfl:=ZV h
  repeat (first|refine pG ?_|refine pI ?_)
  exact⟨ak [(4,eL ah.c s2.2.2.2)],[aag ⟨aW,2,80,[(ae.c (⟨s2.1,s2.2.1⟩:ae))]⟩],qH Z (.cons (.row<|.cons (.fz<|qD Z)<|.cons (.fz<|qD Z) .nil) .nil)<|ai (.fz<|qD Z) aO,jQ (vs:=[eL ah.c s2.2.2.2]) (.cons (.tmp Z) .nil) ⟨Z,Z⟩⟩
 refine jI<|oN mv<|jB h λv3 cv3 h=>oA (EvA.call Z Z Z<|(ax (⟨r_.b,r_.p⟩:ae) (24:Int) aW cv3).one 0 Z (.cons (.hp Z)<|.cons (.pF Z) .nil) (au Z) (au Z) Z)<|jA<|jE<|jI<|oN (ZT.ieq Z Z)<|oN as'<|jA ?_;refine jN Z h (λq4 h=>?_) λq4 h=>?_
 .refine jC<|oN mv<|oN mv<|oN (ZT.mkF (c:=cI) ([(0:Int),(4:Int),(2:Int)]:LI) [[I U],[I (4:Int)],[I (2:Int)]] iq Z Z Z qE qE Z)<|jB h λv5 cv5 h=>oA (EvA.call Z Z Z<|(cW (⟨v3.1.b,v3.1.p⟩:ae) ([(0:Int),(4:Int),(2:Int)]:LI) aW cv5).one 0 Z (.cons (.hp Z)<|.cons (.pF Z) .nil) (au Z) (au Z) Z)<|jD h λg6 h=>oN (ZT.ixO (g:=false) Im Z Z nofun g6)<|oN (fa Yx Z)<|oV (EvA.stO (g:=false) (l:=(([]:List ah)++m)) (cs:=[I v5.2]) ({ ((([]:List ah)++m).getD (U.toNat) aad) with Kind:=v5.2 }) Z8 Z Z Z nofun (aS Z g6) Z Z Z)<|jA ?_;obtain rfl:=ZV h;exact⟨0+1,trivial,qH Z (.cons (.row<|.cons (.fz<|qD Z)<|.cons (.fz<|qD Z) .nil) .nil)<|ai (.fz<|Fz.own (g:=false) (ver:=0+1) (l:=((([]:List ah)++m).set ((0:Int).toNat)<|{ ((([]:List ah)++m).getD ((0:Int).toNat) aad) with Kind:=v5.2 })) Z Z (by simp) nofun ah.isF) aO⟩
 refine jI<|oN (ZT.ieq Z Z)<|oN as'<|jA ?_;refine jN Z h (λq7 h=>?_) λq7 h=>?_
 .refine jC<|oN mv<|oN mv<|oN mv<|jD h λg8 h=>oN (ZT.ixO (g:=false) Im Z Z nofun g8)<|oN (fa Yx Z)<|oA (EvA.ldO (g:=false) (l:=(([]:List ah)++m)) (.agg<|aa.c<|((([]:List ah)++m).getD (U.toNat) aad).Expr) OD Z Z nofun (aS Z g8) Z)<|jB h λv9 cv9 h=>oA (EvA.call Z Z Z<|(DL (⟨v3.1.b,v3.1.p⟩:ae) (⟨(((([]:List ah)++m).getD (U.toNat) aad).Expr).Op,(((([]:List ah)++m).getD (U.toNat) aad).Expr).Name,(((([]:List ah)++m).getD (U.toNat) aad).Expr).Kids⟩:aa) aW cv9).one 0 Z (.cons (.hp Z)<|.cons (.pF Z) .nil) (au Z) (au Z) Z)<|oN (ZT.ixO (g:=false) Im Z Z nofun g8)<|oN (fa Yx Z)<|oV (EvA.stO (g:=false) (l:=(([]:List ah)++m)) (cs:=(aa.c v9.2)) ({ ((([]:List ah)++m).getD (U.toNat) aad) with Expr:=v9.2 }) OD Z Z Z nofun (aS Z g8) Z Z Z)<|jA ?_;obtain rfl:=ZV h;exact⟨0+1,trivial,qH Z (.cons (.row<|.cons (.fz<|qD Z)<|.cons (.fz<|qD Z) .nil) .nil)<|ai (.fz<|Fz.own (g:=false) (ver:=0+1) (l:=((([]:List ah)++m).set ((0:Int).toNat)<|{ ((([]:List ah)++m).getD ((0:Int).toNat) aad) with Expr:=v9.2 })) Z Z (by simp) nofun ah.isF) aO⟩
 refine jI<|oN (ZT.ieq Z Z)<|oN as'<|jA ?_;refine jN Z h (λq10 h=>?_) λq10 h=>?_
 .refine jC<|oA (EvA.mkO (c:=ah.c) ([]:List ah) [] Im Z Z Z qE Z Z)<|oN (ZT.asg (hS aaf 2 0 4<|([]:List ah).length) Z)<|jA ?_
  cases h
  exact⟨0+1,trivial,qH Z (.cons (.row<|.cons (.fz<|qD Z)<|.cons (.fz<|qD Z) .nil) .nil)<|ai (.fz<|Fz.own (g:=false) (ver:=0) (l:=([]:List ah)) Z Z Z nofun ah.isF) aO⟩
 refine jI<|oN (ZT.ieq Z Z)<|oN as'<|jA ?_;refine jN Z h (λq11 h=>?_) λq11 h=>?_
 .refine jE ?_;refine jO (S:=(List ah)) (G:=Nat) (kK v3) (λs15 gh=>True) (λs15 gh=>[(5,hS aaf 1 gh 4 s15.length)]) (λs15 gh=>[aag ⟨aW,2,80,[(ae.c v3.1)]⟩,bE aaf gh 4 70 (s15.map ah.c)]) (s0:=(([]:List ah)++m)) (0+1) h trivial (kw Z Z) λs15 u17 ws15 h hg=>?_;refine jH<|jI<|oN mv<|oN (ZT.lenO (g:=false) Im Z nofun)<|oN (ZT.ile Z Z)<|jA ?_;refine jN Z h (λq18 h=>?_) λq18 h=>?_
  .refine jG<|jE<|jC<|oN mv<|oN mv<|jD h λg19 h=>oN (ZT.ixO (g:=false) Im Z Z nofun g19)<|oA (EvA.ldO (g:=false) (l:=s15) (.agg<|ah.c<|s15.getD (U.toNat) aad) Zj Z Z nofun (aS Z g19) Z)<|oN (ZT.mkF (c:=ah.c) ([(s15.getD (U.toNat) aad)]:List ah) [(ah.c (⟨(s15.getD (U.toNat) aad).Kind,((s15.getD (U.toNat) aad).Expr)⟩:ah))] Im Z Z Z qE ah.isF Z)<|jL h λg20 h=>oA (EvA.app1 (g:=false) (l:=s15) (s15.getD (U.toNat) aad) Im (by kernel_rfl) Z Z Z nofun (bH.fz (l:=([(s15.getD (U.toNat) aad)]:List ah)) Z qE) g20)<|oN (ZT.asg (hS aaf 1 (u17+1) 4<|(s15++[(s15.getD (U.toNat) aad)]).length) Z)<|jA ?_;obtain rfl:=ZV h;exact⟨(s15++[(s15.getD (U.toNat) aad)]),u17+1,Z,trivial,kw Z Z⟩
  refine jM<|lX h λh=>?_;obtain rfl:=ZV h;exact⟨u17,trivial,qH Z (.cons (.row<|.cons (.fz<|qD Z)<|.cons (.fz<|qD Z) .nil) .nil)<|ai (.fz<|Fz.own (g:=false) (ver:=u17) (l:=s15) Z Z Z nofun ah.isF) aO⟩
 refine jG ?_
 cases h
 exact⟨0+1,trivial,qH Z (.cons (.row<|.cons (.fz<|qD Z)<|.cons (.fz<|qD Z) .nil) .nil)<|ai (.fz<|Fz.own (g:=false) (ver:=0+1) (l:=(([]:List ah)++m)) Z Z Z nofun ah.isF) aO⟩
instance NA(split:Bool):Ct aaj (jY split) 131 [Bo split] I:=ctp func131 λq h=>az h
theorem E0(p:List<|List ZW)(qG:Int){q}(h:qZ p qG=aag q):aF aaj 130 [eL (cL ZW.c) p,I qG] (.agg<|ZZ.c q):=by
 refine pM func130 Z (by kernel_rfl) Z<|jI ?_;refine gq h λ_ h=>?_;refine jH<|T.reserve<|jP (dG [dF,dF,dF,dF,dF,dF,dF,dF,dF,([1],aae),([1],aae)]) (by kernel_rfl) (by kernel_rfl) ?_;refine go h λ_ h=>?_;refine jD h λg1 h=>fN Z (ZT.msF (c:=cI) (aad:Int) iq Z Z g1 Z Z qE)<|go h λ_ h=>?_;refine jD h λg3 h=>fN Z (ZT.msF (c:=cI) (aad:Int) iq Z Z g3 Z Z qE)<|jD h λg4 h=>fN Z (ZT.msF (c:=cI) (aad:Int) iq Z Z g4 Z Z qE) ?_;refine go h λ_ h=>?_;refine fW 1 [] Z Z (λG hG=>EvA.alR 1 RX Z Z<|hG.a0 Z)<|go h λ_ h=>?_;refine jD h λg5 h=>oN (ZT.msZ (f:=cI) wo Z Z g5 Z) ?_;exact gf h
instance Pw(p:List<|List ZW)(qG:Int):Ct aaj (qZ p qG) 130 [eL (cL ZW.c) p,I qG] (λq=>.agg<|ZZ.c q):=⟨E0 p qG⟩
instance E5(p:List<|List ZW)(split:Bool):Ct aaj (mN p split) 64 [eL (cL ZW.c) p,Bo split] (λq=>.agg<|ZZ.c q):=ctp func64 λq h=>by
 refine gC h λv1 h=>?_;refine gC h λv3 h=>?_;exact gf h
theorem E8(p:List<|List ZW)(split:Bool){q}(h:mN p split=aag q):aF aaj 64 [eL (cL ZW.c) p,Bo split] (.agg<|ZZ.c q):=(E5 p split).c h
instance Hm(s:ZZ):Ct aaj (je s) 66 [.agg (ZZ.c s)] St:=ctp func66 λq h=>by
 refine go h λ_ h=>?_;refine eF Z Z Z<|go h λ_ h=>?_;refine oA (EvA.mkO (c:=cY) ([]:LI) [] RY Z Z Z qE Z Z)<|go h λ_ h=>?_;refine kJ [1] h (λs1 gh k=>(3,hS aaf 0 gh 1 s1.length)::k) (λs1 gh=>[bE aaf gh 1 5 (s1.map cY)]) (λs1 u13 h=>?_) λs1 h=>?_
 .refine kJ [1] h (λs14 gh k=>(3,hS aaf 0 gh 1 s14.length)::k) (λs14 gh=>[bE aaf gh 1 5 (s14.map cY)]) (λs14 u26 h=>?_) λs14 h=>?_
  .refine kJ [1] h (λs27 gh k=>(3,hS aaf 0 gh 1 s27.length)::k) (λs27 gh=>[bE aaf gh 1 5 (s27.map cY)]) (λs27 u39 h=>?_) λs27 h=>?_
   .refine tJ h (λs40 gh=>[(3,hS aaf 0 gh 1 s40.length)]) (λs40 gh=>[bE aaf gh 1 5 (s40.map cY)]) (λs40 u64 h=>?_) λs40 h=>?_
    .refine go h λ_ h=>?_;refine oA (EvA.b2s (l:=s40) underlying22 underlying5 underlying9 (Xa (g:=false) Z)<|bH.ow (g:=false) (l:=s40) Z Z Z nofun) ?_;exact gz h
    refine go h λ_ h=>?_;refine kT [1] h u39 (λs44 gh k=>(7,I s44.2)::(3,hS aaf 0 gh 1 s44.1.length)::k) (λs44 gh=>[bE aaf gh 1 5 (s44.1.map cY)]) λs44 u46 ws44 h=>?_;refine gy h λq47 h=>?_;refine go h λ_ h=>?_;refine kJ [7,1] h (λs48 gh k=>(3,hS aaf 0 gh 1 s48.length)::k) (λs48 gh=>[bE aaf gh 1 5 (s48.map cY)]) (λs48 u62 h=>?_) λs48 h=>?_
    .exact az h
    refine gk h λ_ _ h=>?_;refine kT [7,1] h (u46+1) (λs53 gh k=>(8,I s53.2)::(3,hS aaf 0 gh 1 s53.1.length)::k) (λs53 gh=>[bE aaf gh 1 5 (s53.1.map cY)]) λs53 u55 ws53 h=>?_;refine gs h λf h=>?_;obtain⟨g56,_⟩:=f;refine jN Z h (λq57 h=>?_) λq57 h=>?_
    .refine go h λ_ h=>?_;refine gs h λ_ h=>?_;refine gk h λ_ _ h=>?_;obtain rfl:=ZV h;exact⟨((s53.1++[(J (J s.buf s44.2) s53.2)]),(s53.2+V)),u55+1,Z,trivial,Z9⟩
    exact az h
   refine go h λ_ h=>?_;refine kT [1] h u26 (λs31 gh k=>(6,I s31.2)::(3,hS aaf 0 gh 1 s31.1.length)::k) (λs31 gh=>[bE aaf gh 1 5 (s31.1.map cY)]) λs31 u33 ws31 h=>?_;refine gy h λq34 h=>?_;refine go h λ_ h=>?_;refine gs h λ_ h=>?_;refine gk h λ_ _ h=>?_;obtain rfl:=ZV h;exact⟨((s31.1++[(J s.mem s31.2)]),(s31.2+V)),u33+1,Z,trivial,Z9⟩
  refine go h λ_ h=>?_;refine kT [1] h u13 (λs18 gh k=>(5,I s18.2)::(3,hS aaf 0 gh 1 s18.1.length)::k) (λs18 gh=>[bE aaf gh 1 5 (s18.1.map cY)]) λs18 u20 ws18 h=>?_;refine gy h λq21 h=>?_;refine go h λ_ h=>?_;refine gs h λ_ h=>?_;refine gk h λ_ _ h=>?_;obtain rfl:=ZV h;exact⟨((s18.1++[(J s.regs s18.2)]),(s18.2+V)),u20+1,Z,trivial,Z9⟩
 refine go h λ_ h=>?_;refine kT [1] h 0 (λs5 gh k=>(4,I s5.2)::(3,hS aaf 0 gh 1 s5.1.length)::k) (λs5 gh=>[bE aaf gh 1 5 (s5.1.map cY)]) λs5 u7 ws5 h=>?_;refine gy h λq8 h=>?_;refine go h λ_ h=>?_;refine gs h λ_ h=>?_;refine gk h λ_ _ h=>?_;obtain rfl:=ZV h;exact⟨((s5.1++[(J s.at_ s5.2)]),(s5.2+V)),u7+1,Z,trivial,Z9⟩
theorem Av(s:ZZ){q}(h:je s=aag q):aF aaj 66 [.agg (ZZ.c s)] (St q):=(Hm s).c h
instance GG(s:BA):Ct aaj (bX s) 132 [St s] I:=ctp func132 λq h=>by
 refine go h λ_ h=>?_;refine qV [] h (λs1 k=>(3,I s1)::k) (λs1 h=>?_) λs1 h=>?_
 .exact az h
 refine go h λ_ h=>?_;refine qU [0] h (λs4 k=>(4,I s4.1)::(3,I s4.2)::k) λs4 ws4 h=>?_;exact az h
theorem GH(s:BA){q}(h:bX s=aag q):aF aaj 132 [St s] (I q):=(GG s).c h
instance E9(table:List<|List BA)(s:BA):Ct aaj (fP table s) 72 [eL (cL cS) table,St s] Bo:=ctp func72 λq h=>by
 refine gC h λv1 h=>?_;refine qS [] h (λs3 k=>k) (λs3 h=>?_) λKs3 ws3 h ks3=>?_
 .exact az h
 refine go h λ_ h=>?_;refine qU [5,1] h (λs6 k=>(6,I s6)::k) λs6 ws6 h=>?_;exact az h
theorem Fa(table:List<|List BA)(s:BA){q}(h:fP table s=aag q):aF aaj 72 [eL (cL cS) table,St s] (Bo q):=(E9 table s).c h
instance Px(s:ZZ)(t:Int)(split:Bool):Ct aaj (rf s t split) 134 [.agg (ZZ.c s),I t,Bo split] Bo:=ctp func134 λq h=>by
 refine go h λ_ h=>?_;refine eF Z Z Z<|gC h λv1 h=>?_;refine qS [] h (λs2 k=>k) (λs2 h=>?_) λKs2 ws2 h ks2=>?_
 .exact az h
 refine go h λ_ h=>?_;refine qU [7,3,1] h (λs5 k=>(8,I s5)::k) λs5 ws5 h=>?_;exact az h
instance Hn(p:List<|List ZW)(s:ZZ)(split:Bool)(move:Int):Ct aaj (jf p s split move) 70 [eL (cL ZW.c) p,.agg (ZZ.c s),Bo split,I move] Bo:=ctp func70 λq h=>by
 refine go h λ_ h=>?_;refine eF Z Z Z<|go h λ_ h=>?_;refine gs h λ_ h=>?_;refine gB [5,0,2,3] h 9 (λs1 k=>(21,Bo s1)::k) λs1 h=>?_;refine gx h λq4 h=>?_;refine go h λ_ h=>?_;refine gsi h (λ_ q5 h=>?_) λ_ q5 h=>?_
 .exact gz h
 refine go h λ_ h=>?_;refine jH<|jH<|T.drawP (by kernel_rfl) (by kernel_rfl) ?_;refine go h λf h=>?_;obtain⟨g9,g8,_⟩:=f;refine jN Z h (λq10 h=>?_) λq10 h=>?_
 .exact gz h
 refine go h λ_ h=>?_;refine jH ?_;refine T.cl [5,0,2,3] Z<|T.reserve<|jP (dG [dF,dF,dF,dF,dF,dF,dF,dF,dF,dF,dF,([0],aae),([0],aae)]) (by kernel_rfl) (by kernel_rfl) ?_;refine go h λ_ h=>?_;refine fW 0 [] Z Z (λG hG=>EvA.alR 0 L9 Z Z<|hG.a0 Z)<|go h λ_ h=>?_;refine gB [5,2,3] h 4 (λs12 k=>(65,Bo s12)::k) λs12 h=>?_;refine go h λ_ h=>?_;refine gB [] h 5 (λs14 k=>(71,Bo s14)::k) λs14 h=>?_;exact gz h
theorem Hp(p:List<|List ZW)(s:ZZ)(split:Bool)(move:Int){q}(h:jf p s split move=aag q):aF aaj 70 [eL (cL ZW.c) p,.agg (ZZ.c s),Bo split,I move] (Bo q):=(Hn p s split move).c h
instance SC(p:List<|List ZW)(s:ZZ):Ct aaj (tz p s) 133 [eL (cL ZW.c) p,.agg (ZZ.c s)] Bo:=ctp func133 λq h=>by
 refine go h λ_ h=>?_;refine eF Z Z Z<|go h λ_ h=>?_;refine qS [] h (λs1 k=>k) (λs1 h=>?_) λKs1 ws1 h ks1=>?_
 .exact az h
 refine go h λ_ h=>?_;refine qU [3,0] h (λs4 k=>(5,I s4)::k) λs4 ws4 h=>?_;exact az h
instance GI(p:List<|List ZW)(s:ZZ):Ct aaj (jq p s) 67 [eL (cL ZW.c) p,.agg (ZZ.c s)] Bo:=ctp func67 λq h=>by
 refine go h λ_ h=>?_;refine eF Z Z Z<|go h λ_ h=>?_;refine qS [3,0] h (λs1 k=>k) (λs1 h=>?_) λKs1 ws1 h ks1=>?_
 .exact az h
 refine go h λ_ h=>?_;refine qU [3,0] h (λs4 k=>(5,I s4)::k) λs4 ws4 h=>?_;exact az h
theorem GJ(p:List<|List ZW)(s:ZZ){q}(h:jq p s=aag q):aF aaj 67 [eL (cL ZW.c) p,.agg (ZZ.c s)] (Bo q):=(GI p s).c h
instance Cu(s:ZZ):Ct aaj (dm s) 69 [.agg (ZZ.c s)] (eL cI):=ctp func69 λq h=>by
 refine go h λ_ h=>?_;refine eF Z Z Z<|gq h λ_ h=>?_;refine jH<|T.reserve<|T.drawH (dG [([0],aae),dF,dF,([0],aae),dF,dF,([0],aae),dF]) (by kernel_rfl) (by kernel_rfl)<|fW 0 [] Z Z (λG hG=>EvA.mkOR (c:=cI) 0 ([]:LI) [] iq Z Z Z qE qE Z<|hG.a0 Z) ?_;refine go h λ_ h=>?_;refine jL h λg1 h=>fW 0 [] Z Z (λG hG=>EvA.appF (l:=([]:LI)) s.regs iq (by kernel_rfl) Z Z (hG.a0 Z) (bH.fz (l:=s.regs) Z qE) g1)<|go h λ_ h=>?_;refine jL h λg2 h=>fW 0 [] Z Z (λG hG=>EvA.appF (l:=(([]:LI)++s.regs)) s.mem iq (by kernel_rfl) Z Z (hG.a0 Z) (bH.fz (l:=s.mem) Z qE) g2) ?_;exact gf h
theorem Cv(s:ZZ){q}(h:dm s=aag q):aF aaj 69 [.agg (ZZ.c s)] (eL cI q):=(Cu s).c h
instance Hq(list:LL)(o_:LI):Ct aaj (jg list o_) 68 [eL (cL cI) list,eL cI o_] (eL<|cL cI):=ctp func68 λq h=>by
 refine go h λ_ h=>?_;refine qV [0,1] h (λs1 k=>(5,I s1)::k) (λs1 h=>?_) λs1 h=>?_
 .refine gs h λ_ h=>?_;refine gB [5,0,1] h 8 (λs12 k=>(34,Bo s12)::k) λs12 h=>?_;refine gx h λq16 h=>?_;refine go h λ_ h=>?_;refine oA (EvA.mkO (c:=(cL cI)) ([]:LL) [] wo Z Z Z qE Z Z)<|go h λ_ h=>?_;refine jD h λg17 h=>oN (ZT.slL wo Z .no (.yes Z) g17 qE)<|gk h λ_ _ h=>?_;refine jD h λg20 h=>oN (ZT.slL wo Z (.yes Z) .no g20 qE) ?_;exact gf h
 refine go h λ_ h=>?_;refine qU [0,1] h (λs4 k=>(5,I s4)::k) λs4 ws4 h=>?_;exact az h
theorem Hr(list:LL)(o_:LI){q}(h:jg list o_=aag q):aF aaj 68 [eL (cL cI) list,eL cI o_] (eL (cL cI) q):=(Hq list o_).c h
instance Fb(t:Int)(loc:Int)(split:Bool):Ct aaj (fQ t loc split) 139 [I t,I loc,Bo split] I:=ctp func139 λq h=>az h
theorem Fc(t:Int)(loc:Int)(split:Bool){q}(h:fQ t loc split=aag q):aF aaj 139 [I t,I loc,Bo split] (I q):=(Fb t loc split).c h
instance GK(s:ZZ)(t:Int)(loc:Int)(split:Bool):Ct aaj (oU s t loc split) 137 [.agg (ZZ.c s),I t,I loc,Bo split] I:=ctp func137 λq h=>by
 refine go h λ_ h=>?_;refine eF Z Z Z<|go h λ_ h=>?_;refine jH<|T.drawP (by kernel_rfl) (by kernel_rfl) ?_;refine gC h λv1 h=>?_;refine qS [4,2] h (λs3 k=>k) (λs3 h=>?_) λKs3 ws3 h ks3=>?_
 .exact az h
 refine go h λ_ h=>?_;refine qU [9,4,2] h (λs7 k=>(10,I s7)::k) λs7 ws7 h=>?_;exact az h
theorem GL(s:ZZ)(t:Int)(loc:Int)(split:Bool){q}(h:oU s t loc split=aag q):aF aaj 137 [.agg (ZZ.c s),I t,I loc,Bo split] (I q):=(GK s t loc split).c h
instance Hs(t:Int)(reg:Int):Ct aaj (lu t reg) 138 [I t,I reg] I:=ctp func138 λq h=>az h
theorem Aw(t:Int)(reg:Int){q}(h:lu t reg=aag q):aF aaj 138 [I t,I reg] (I q):=(Hs t reg).c h
instance Fe(s:ZZ)(t:Int)(x:ZW):Ct aaj (kr s t x) 140 [.agg (ZZ.c s),I t,.agg (ZW.c x)] I:=ctp func140 λq h=>az h
theorem yA(s:ZZ)(t:Int)(x:ZW){q}(h:kr s t x=aag q):aF aaj 140 [.agg (ZZ.c s),I t,.agg (ZW.c x)] (I q):=(Fe s t x).c h
theorem SD{gh:NG}{w:Nat}{tbl:Tb}{i:Nat}(h:i<tbl.length):(pO gh w tbl)[i]?=aag [hS (gh i).1 (gh i).2.1 (gh i).2.2 w (tbl.getD i []).length]:=ui h
theorem O1{H:AH}{tv:Nat}{gh:NG}{tbl:Tb}(key:BA){v:Int}(hv:bX key=aag v)(hin:0<=v/\v<(tbl.length:Int))(hcap:aR ((tbl.getD v.toNat []).length+1) 16=aae)
  (hb:H[1]?=aag (aag ⟨tv,1,85,pO gh 1 tbl⟩)) (hN:NK 6 H gh 1 9 cS tbl) :
  eZ aaj 65 [hS aaf 1 tv 1 tbl.length,St key] H (.tup [])
   ((H.set (gh v.toNat).2.1 (bE aaf ((gh v.toNat).2.2+1) 1 9 ((tbl.getD v.toNat []++[key]).map cS))).set 1
    (aag ⟨tv,1,85,(pO gh 1 tbl).set v.toNat [hS aaf (gh v.toNat).2.1 ((gh v.toNat).2.2+1) 1 (tbl.getD v.toNat []++[key]).length]⟩)):=by
 have hi:v.toNat<tbl.length:=by omega
 obtain⟨h6,hrow⟩:=hN.at_ _ hi;have hnil:=hN.nil_ _ hi;have hrw:=SD (gh:=gh) (w:=1) hi;generalize gh v.toNat=x at h6 hrow hnil hrw ⊢;obtain⟨g,id,vv⟩:=x;simp only at h6 hrow hnil hrw ⊢;generalize hr:tbl.getD v.toNat []=row at hrow hnil hcap hrw ⊢;refine eZ.mkT func65 rfl (by kernel_rfl) rfl (by kernel_rfl) (e0:=ak [(0,hS aaf 1 tv 1 tbl.length),(1,St key)]) (ZR rfl<|ZR rfl ZQ) ?_;refine T.seq ?_;refine T.region ?_;refine oN (ZT.mv (St key) rfl) ?_;refine oN (ZT.call rfl rfl rfl (GH key hv) rfl) ?_;refine oN (ZT.asg (I v) rfl) ?_;refine TO.nil ?_;refine T.region ?_;refine oN (ZT.mv (hS aaf 1 tv 1 tbl.length) rfl) ?_;refine oN (ZT.mv (I v) rfl) ?_;refine oN (ZT.mv (hS aaf 1 tv 1 tbl.length) rfl) ?_;refine oN (ZT.mv (I v) rfl) ?_;refine oN (ZT.ixO (g:=false) Y1 rfl rfl nofun hin) ?_;refine oA (EvA.loadhp (hS g id vv 1 row.length) YV rfl hb rfl rfl hrw rfl) ?_;refine oN (ZT.mv (St key) rfl) ?_;refine oN (ZT.mkF (c:=cS) ([key]:List BA) [[St key]] Ur rfl rfl rfl (λ_=>rfl) (λ_=>rfl) rfl) ?_;refine oA (EvA.app1 (g:=g) (l:=row) key Ur (by kernel_rfl) rfl rfl hrow hnil (bH.fz (l:=[key]) rfl λ_=>rfl) hcap) ?_;refine oN (ZT.ixO (g:=false) Y1 rfl rfl nofun hin) ?_;refine oV (EvA.st ⟨tv,1,85,(pO gh 1 tbl).set v.toNat [hS aaf id (vv+1) 1 (row++[key]).length]⟩ YV rfl rfl ((afo<|by omega).trans hb) rfl rfl hrw rfl rfl rfl) ?_;refine TO.nil ?_;exact⟨_,_,K5 rfl ZQ,Fin.normal (vs:=[]) .nil ⟨rfl,rfl⟩⟩
structure TabOk(K:AH)(gh:NG)(tbl:Tb):Prop where
 nk:NK 6 (aah::aah::aah::aah::aah::aah::K) gh 1 9 cS tbl
 kf:KF K
theorem TabOk.at6{K:AH}{gh:NG}{tbl:Tb}(h:TabOk K gh tbl)(a b c d e f:Option ABlk):NK 6 (a::b::c::d::e::f::K) gh 1 9 cS tbl:=
 h.nk.low λb hb _=>by match b,hb with|b+6,_=>rfl
theorem SE{K:AH}{gh:NG}{tbl:Tb}(hT:TabOk K gh tbl)(key:BA){v:Int}(hv:bX key=aag v)(hin:0<=v/\v<(tbl.length:Int))(hcap:aR ((tbl.getD v.toNat []).length+1) 16=aae)(a c d e f:Option ABlk) :
  ∃gh' K',eZ aaj 65 [hS aaf 1 0 1 tbl.length,St key] (a::aag ⟨0,1,85,pO gh 1 tbl⟩::c::d::e::f::K) (.tup [])
   (a::aag ⟨0,1,85,pO gh' 1<|tbl.set v.toNat<|tbl.getD v.toNat []++[key]⟩::c::d::e::f::K')/\TabOk K' gh' (tbl.set v.toNat<|tbl.getD v.toNat []++[key])/\K'.length=K.length:=by
 have hi:v.toNat<tbl.length:=by omega
 have h:=O1 (H:=a::aag ⟨0,1,85,pO gh 1 tbl⟩::c::d::e::f::K) key hv hin hcap rfl<|hT.at6 a _ c d e f;have hs:=(hT.nk.set (i:=v.toNat) hi (g:=false) (ver:=(gh v.toNat).2.2+1) (r:=tbl.getD v.toNat []++[key]) nofun);obtain⟨h6,_⟩:=hT.nk.at_ _ hi;have hns:=Qf (gh:=gh) (w:=1) (l:=tbl) (i:=v.toNat) (g:=false) (id:=(gh v.toNat).2.1) (ver:=(gh v.toNat).2.2+1) (r:=tbl.getD v.toNat []++[key]) hi;rw[hns] at h;generalize (gh v.toNat).2.1=id at h h6 hs;obtain⟨k,rfl⟩:∃k,id=k+6:=⟨id-6,by omega⟩;refine⟨_,K.set k<|bE aaf ((gh v.toNat).2.2+1) 1 9<|(tbl.getD v.toNat []++[key]).map cS,h,⟨hs,λi kb hk=>?_⟩,by simp⟩
 by_cases e:k=i
 .subst e;have hl:k<K.length:=by
   have:=(ges hk).1;simpa using this
  rw[List.getElem?_set_self hl] at hk;obtain rfl:=osl<|osl hk;exact HQ λ_=>rfl
 rw[afo e] at hk;exact hT.kf i kb hk
theorem Mr{S:Nat->Nat->Prop}{e:Env}:∀t,Ren S (e t) (ak [] t):=λ_=>.top
theorem dz{S:Nat->Nat->Prop}{e:Env}{t:Nat}{a:AV}{l:List (Nat×AV)}(h:Ren S (e t) a)(w:∀q,Ren S (e q)<|ak l q):∀q,Ren S (e q) (ak ((t,a)::l) q):=by
 intro q;rcases CG t a l q with⟨rfl,h1⟩|h1
 .rw[h1];exact h
 rw[h1];exact w q
theorem WB{K:AH}{gh:NG}{tbl:Tb}(hT:TabOk K gh tbl){a c d e f:Option ABlk}(b:Nat)(hb:b=4\/b=5)(ha:∀k,a=aag k->rQ k)(hc:∀k,c=aag k->rQ k)(hd:∀k,d=aag k->rQ k)(he:∀k,e=aag k->rQ k)(hf:∀k,f=aag k->rQ k) :
  Reid 0 (Dp b<|K.length+6) (a::aag ⟨0,1,85,pO gh 1 tbl⟩::c::d::e::f::K) ((a::aag ⟨0,1,85,pO gh 1 tbl⟩::c::d::e::f::K).set b aah):=by
 refine Reid.drop (by simp) (Nat.zero_le _) (by omega) λi k hne hk=>?_
 match i,hk with
 |0,hk=>exact .ofF (ha k<|osl hk)
 |1,hk=>
  obtain rfl:=osl<|osl hk;refine⟨rfl,rfl,rfl,rfl,λi r r' hr hr'=>?_⟩;have hi:i<tbl.length:=by
   have:=(ges hr).1
   rwa [uh] at this
  rw[ui hi] at hr hr';obtain rfl:=osl hr;obtain rfl:=osl hr';refine⟨rfl,λj a a' ha ha'=>?_⟩
  match j with
  |0=>
   obtain rfl:=osl ha;obtain rfl:=osl ha';obtain⟨h6,hrow⟩:=hT.nk.at_ i hi;have hlt:=(ges hrow).1;simp only[llc] at hlt;show Ren _ (hS (gh i).1 (gh i).2.1 (gh i).2.2 1 _) (hS (gh i).1 (gh i).2.1 (gh i).2.2 1 _)
   cases (gh i).1 with
   |true=>exact .nil
   |false=>exact .hs ⟨by omega,by omega,rfl⟩
  |j+1=>simp[UI] at ha
 |2,hk=>exact .ofF (hc k<|osl hk)
 |3,hk=>exact .ofF (hd k<|osl hk)
 |4,hk=>exact .ofF (he k<|osl hk)
 |5,hk=>exact .ofF (hf k<|osl hk)
 |i+6,hk=>exact .ofF (hT.kf i k hk)
section
variable{P:Program}{ρ:Operand->AV}{H:AH}{x y:Operand}{t u e:TypeId}
theorem EvA.appJ{ag:Bool}{w m:Nat}{zs:List AV}{b ver n n':Nat}{rows rows' news:List (List AV)}(q:SlT P t e ag w zs m)(hv:Mt P u=aae)(hx:ρ x=hS aaf b ver w n)(hk:H[b]?=aag (aag ⟨ver,w,e,rows⟩))(hn:n<=rows.length)
  (hsrc:bH P H w (ρ y) news) (hb:aR (n+news.length) m=aae) (hr:rows.take n++news=rows') (hn':n+news.length=n') :
  EvA P ρ (.call ⟨.builtin .append,#[x,y],#[t,u]⟩) H (hS aaf b (ver+1) w n') (H.set b<|aag ⟨ver+1,w,e,rows'⟩):=λo ho=>by
 have hz:=P6 q.z<|q.zl.trans q.ty.cells.symm;subst hr hn';rw[<- q.ty.cells] at hsrc hx hk ⊢;have h:=Az (o:=o) (P:=P) (ρ:=ρ) (H:=H) (k:=⟨ver,P.cellsOf e,e,rows⟩) (off:=0) (len:=n) (news:=news) ho rfl rfl rfl q.u (IE hv) hx hk rfl rfl rfl (by simpa using hn) rfl hz (by rw[q.by_];exact(DZ hb).1) (DZ hb).2 hsrc;simpa [hS] using h
theorem EvA.msW{ag:Bool}{w m:Nat}{zs:List AV}{a b:Int}(bl n:Nat){rows:List (List AV)}(q:SlT P t e ag w zs m)(hx:ρ x= .v (.int .i64 a))(hy:ρ y= .v (.int .i64 b))(hq:0<=a/\a<=b/\b*(m:Int)<=140737488355328/\b<=140737488355328)(hab:a=b)(hF:zs.all (isF 9)=aae)(hb:H[bl]?=aag aah)
  (hr:afk a.toNat zs=rows) (hn:a.toNat=n):EvA P ρ (.makeSlice t x y) H (hS aaf bl 0 w n) (H.set bl<|aag ⟨0,w,e,rows⟩):=λo ho=>by
 subst hab hr hn;have h:=IL (H:=H) q ho hx hy hq;refine h.at_ hb (λr hr z hz=>?_)<|.inl ⟨_,rfl,rfl⟩;rw[List.mem_replicate] at hr;rw[hr.2] at hz;exact List.all_eq_true.1 hF z hz
end
theorem SF(n:Nat):afk n [AV.nil]=pO (λi=>(aae,i+6,0)) 1 (afk n ([]:List BA)):=by
 apply List.ext_getElem
 .simp[pO]
 intro i h1 h2;simp[pO,UI,hS]
theorem ZN(n:Nat):TabOk (afk n aah) (λi=>(aae,i+6,0)) (afk n []):=by
 refine⟨⟨λi hi=>⟨by simp,?_⟩,λi hi _=>?_,λi j _ _ hne=>by simpa using hne⟩,λi k hk=>?_⟩
 .simp only[afp] at hi;simp[List.getElem?_cons_succ,hi,bE]
 .simp only[afp] at hi;simp[hi]
 have:=List.mem_of_getElem? hk;rw[List.mem_replicate] at this
 cases this.2
def rwL(v:Nat):LL->Nat->List (List AV)
 |[],_=>[]
 |a::t,0=>[hS aaf 6 v 1 a.length]::t.map (cL cI)
 |a::t,b+1=>cL cI a::rwL v t b
def rbL(v:Nat):LL->Nat->Option ABlk
 |[],_=>aah
 |a::_,0=>bE aaf v 1 3 (a.map cI)
 |_::t,b+1=>rbL v t b
abbrev rwB(v b:Nat)(l:LL):List (List AV):=rwL v l b
abbrev rbB(v b:Nat)(l:LL):Option ABlk:=rbL v l b
theorem Jo(v:Nat):∀(b:Nat)(l:LL),(rwB v b l).length=l.length
 |_,[]=>rfl
 |0,a::t=>by simp[rwB,rwL]
 |b+1,a::t=>by simp only[rwB,rwL,llc];exact congrArg (· + 1)<|Jo v b t
theorem Ms(v:Nat)(r:LI):∀(b:Nat)(l:LL),rwB v b (l++[r])=rwB v b l++[if l.length=b then [hS aaf 6 v 1 r.length] else cL cI r]
 |0,[]=>rfl
 |b+1,[]=>rfl
 |0,a::t=>by
  show [hS aaf 6 v 1 a.length]::(t++[r]).map (cL cI)=([hS aaf 6 v 1 a.length]::t.map (cL cI))++_;rw[if_neg (by simp),List.map_append]
  rfl
 |b+1,a::t=>by
  show cL cI a::rwB v b (t++[r])=(cL cI a::rwB v b t)++_;rw[Ms v r b t];simp
theorem SG(v:Nat)(r:LI):∀(b:Nat)(l:LL),rbB v b (l++[r])=if l.length=b then bE aaf v 1 3 (r.map cI) else rbB v b l
 |0,[]=>rfl
 |b+1,[]=>by
  rw[if_neg (by simp)]
  rfl
 |0,a::t=>by
  rw[if_neg (by simp)]
  rfl
 |b+1,a::t=>by
  show rbB v b (t++[r])=_;rw[SG v r b t];simp[rbB,rbL]
theorem SH(v:Nat):∀(b:Nat)(l:LL),l.length<=b->rbB v b l=aah/\rwB v b l=l.map (cL cI)
 |_,[],_=>by simp[rbB,rwB,rbL,rwL]
 |0,a::t,h=>by simp at h
 |b+1,a::t,h=>by
  have:=SH v b t (by simpa using h);simp only[rbB,rwB] at this;simp[rbB,rwB,rbL,rwL,this]
theorem Ve(v:Nat):∀(b:Nat)(l:LL),b<l.length->rbB v b l=bE aaf v 1 3 ((l.getD b []).map cI)/\(rwB v b l)[b]?=aag [hS aaf 6 v 1 (l.getD b []).length]
 |b,[],h=>absurd h (afn b)
 |0,a::t,_=>⟨rfl,rfl⟩
 |b+1,a::t,h=>Ve v b t (by simpa using h)
theorem SI(v w:Nat)(r:LI):∀(b:Nat)(l:LL),b<l.length->(rwB v b l).set b [hS aaf 6 w 1 r.length]=rwB w b (l.set b r)/\bE aaf w 1 3 (r.map cI)=rbB w b (l.set b r)
 |b,[],h=>absurd h (afn b)
 |0,a::t,_=>⟨rfl,rfl⟩
 |b+1,a::t,h=>by
  have:=SI v w r b t (by simpa using h);refine⟨?_,this.2⟩;show cL cI a::(rwB v b t).set b _=_;rw[this.1]
  rfl
theorem KM{m:Nat}{H:AH}(hm:Nat.blt 6 m=aae)(v:Nat):∀(b:Nat)(l:LL),StlRows m H (rwB v b l) (rwB v b l)
 |_,[]=>.nil
 |0,a::t=>.cons (.cons (.hS (g:=false) (b:=6) hm) .nil)<|StlRows.same (f:=cL cI) (λ_=>rfl) t
 |b+1,a::t=>.cons (.cons (.fz<|.of_isF 9 _ rfl) .nil) (KM hm v b t)
theorem NB{m:Nat}{H:AH}:∀t:LL,FzRows m H (t.map<|cL cI) (t.map<|cL cI)
 |[]=>.nil
 |_::t=>.cons (.cons (.of_isF 9 _ rfl) .nil) (NB t)
theorem WC{m:Nat}{H:AH}{v:Nat}(hm:Nat.ble m 6=aae):∀(b:Nat)(l:LL),H[6]?=aag (rbB v b l)->FzRows m H (rwB v b l) (l.map<|cL cI)
 |_,[],_=>.nil
 |0,a::t,h=>.cons (.cons (Fz.own (g:=false) (ver:=v) (f:=cI) (l:=a) hm h rfl nofun λ_=>rfl) .nil)<|NB t
 |b+1,a::t,h=>.cons (.cons (.of_isF 9 _ rfl) .nil) (WC hm b t h)
theorem NC{m:Nat}{H:AH}(v:Nat):∀(b:Nat)(l:LL),StayB m H (rbB v b l) (rbB v b l)
 |_,[]=>.dead
 |0,a::t=>.list (g:=false) (ver:=v) (f:=cI) (l:=a) λ_=>rfl
 |b+1,a::t=>NC v b t
theorem WE{H:AH}{b ver:Nat}{l:LL}{r:LI}(hb:l.length≠b)(hk:H[9]?=aag (bE aaf (0+1) 1 3<|r.map cI)) :
  StayB 9 H (bE aaf ver 1 25<|rwB 1 b l++[[hS aaf 9 (0+1) 1 r.length]]) (bE aaf ver 1 25<|rwB 1 b<|l++[r]):=by
 rw[Ms,if_neg hb];exact .rows<|(KM rfl 1 b l).app<|.cons (.cons (.fz<|Fz.own (g:=false) (ver:=0+1) (f:=cI) (l:=r) rfl hk rfl nofun λ_=>rfl) .nil) .nil
theorem FzRows.set{m:Nat}{H:AH}{A B:List (List AV)}(h:FzRows m H A B){x y:List AV}(hx:FzL m H x y):∀k,FzRows m H (A.set k x) (B.set k y):=by
 induction h with
 |nil=>intro k;exact .nil
 |cons h t ih=>
  intro k
  cases k with
  |zero=>exact .cons hx t
  |succ k=>exact .cons h (ih k)
theorem SJ{m:Nat}{H:AH}{v b ver:Nat}{l:LL}{g:Bool}(hm:Nat.ble m 5=aae)(hg:l.isEmpty=g)(h4:H[5]?=aag (bE g ver 1 25<|rwB v b l))(h5:H[6]?=aag (rbB v b l)):Fz m H (hS g 5 ver 1 l.length) (eL (cL cI) l):=by
 have hm6:Nat.ble m 6=aae:=by
  have:=nlb hm;exact Nat.ble_eq_true_of_le (by omega)
 subst hg
 cases l with
 |nil=>exact .nil0
 |cons a t=>exact Fz.rows (f:=cL cI) (l:=a::t) (rows:=rwB v b (a::t)) hm h4 (Jo v b (a::t)).symm<|WC hm6 b (a::t) h5
theorem ND{s:ZZ}(h:L8 s=aae):s.at_.length<=1048576/\s.regs.length<=1048576/\s.mem.length<=1048576/\s.buf.length<=1048576/\∀i,(s.buf.getD i aad).length<=1048576:=by
 simp only[L8,bae,dte,List.all_eq_true] at h;refine⟨h.1.1,h.1.2.1,h.1.2.2.1,h.1.2.2.2,λi=>?_⟩
 by_cases hi:i<s.buf.length
 .simpa [hi] using h.2 _ (List.getElem_mem hi)
 rw[gdq,gen (Nat.le_of_not_lt hi)];exact Nat.zero_le _
theorem UA{n m:Nat}(hn:n<=2097200)(hm:Nat.ble m 1000=aae):aR n m=aae:=by
 have h1:=nlb hm;have h2:n*m<=2097200*1000:=Nat.mul_le_mul hn h1;exact decide_eq_true ⟨by omega,by omega⟩
theorem Y7(p:LL){i:Nat}(h:i<p.length):p.take (i+1)=p.take i++[p.getD i aad]:=by
 have e:p.getD i aad=p[i]:=by rw[gdq,geq h];rfl
 rw[e];exact(List.take_append_getElem h).symm
abbrev cpC(s:ZZ)(g:Bool)(u n:Nat):List AV:=[hS aaf 2 (0+1) 1 s.at_.length,hS aaf 3 (0+1) 1 s.regs.length,hS aaf 4 (0+1) 1 s.mem.length,hS g 5 u 1 n]
abbrev KR:Option ABlk:=aag ⟨0,4,92,[[.nil,.nil,.nil,.nil]]⟩
abbrev cpH(k0:Option ABlk)(s:ZZ)(b u:Nat)(l:LL)(x:Option ABlk):AH:=[k0,aah,bE aaf (0+1) 1 3 ((s.at_).map cI),bE aaf (0+1) 1 3 ((s.regs).map cI),bE aaf (0+1) 1 3 ((s.mem).map cI),bE l.isEmpty u 1 25 (rwB 1 b l),rbB 1 b l,x,aag ⟨0,4,92,[cpC s l.isEmpty u l.length]⟩]
theorem Ir(s:ZZ)(hf:L8 s=aae)(b:Nat):eZ aaj 135 [.agg (ZZ.c s)] [KR,aah] (.agg<|cpC s s.buf.isEmpty s.buf.length s.buf.length) (cpH KR s b s.buf.length s.buf<|aag ⟨0,4,92,[cpC s s.buf.isEmpty s.buf.length s.buf.length]⟩):=by
 obtain⟨f1,f2,f3,f4,f5⟩:=ND hf;refine eZ.mkT func135 rfl (by kernel_rfl) rfl (by kernel_rfl) (e0:=ak [(0,.agg<|ZZ.c s)]) (ZR rfl ZQ) ?_;refine T.reserve<|T.reserve<|T.reserve<|T.reserve<|T.reserve ?_;refine T.sr<|oN (ZT.bxF (ZZ.c s) rfl rfl rfl)<|oA (EvA.al RX rfl rfl)<|TO.nil ?_;refine T.seq<|T.reserve<|T.drawF (dG [([2],aae),dF,dF,([2],aae),([3],aae),dF,dF,([3],aae),([4],aae),dF,dF,([4],aae),dF,([8],aae),([8],aae)]) (by kernel_rfl) (by kernel_rfl) ?_;refine fW 2 [] rfl rfl (λG hG=>EvA.mkOR (c:=cI) 2 ([]:LI) [] iq rfl rfl rfl (λ_=>rfl) (λ_=>rfl) rfl<|hG.a0 rfl)<|fN rfl (fa D7 rfl)<|fN rfl (lf (eL cI s.at_) AX rfl) ?_;refine fW 2 [] rfl rfl (λG hG=>EvA.appF (l:=([]:LI)) s.at_ iq (by kernel_rfl) rfl rfl (hG.a0 rfl) (bH.fz (l:=s.at_) rfl λ_=>rfl)<|UA (by simp;omega) rfl) ?_;refine fW 3 [] rfl rfl (λG hG=>EvA.mkOR (c:=cI) 3 ([]:LI) [] iq rfl rfl rfl (λ_=>rfl) (λ_=>rfl) rfl<|hG.a0 rfl)<|fN rfl (fa D7 rfl)<|fN rfl (lf (eL cI s.regs) AX rfl) ?_;refine fW 3 [] rfl rfl (λG hG=>EvA.appF (l:=([]:LI)) s.regs iq (by kernel_rfl) rfl rfl (hG.a0 rfl) (bH.fz (l:=s.regs) rfl λ_=>rfl)<|UA (by simp;omega) rfl) ?_;refine fW 4 [] rfl rfl (λG hG=>EvA.mkOR (c:=cI) 4 ([]:LI) [] iq rfl rfl rfl (λ_=>rfl) (λ_=>rfl) rfl<|hG.a0 rfl)<|fN rfl (fa D7 rfl)<|fN rfl (lf (eL cI s.mem) AX rfl) ?_;refine fW 4 [] rfl rfl (λG hG=>EvA.appF (l:=([]:LI)) s.mem iq (by kernel_rfl) rfl rfl (hG.a0 rfl) (bH.fz (l:=s.mem) rfl λ_=>rfl)<|UA (by simp;omega) rfl) ?_;refine fN rfl (ZT.build (cpC s aae 0 0) underlying92 RX D7 rfl rfl) ?_;refine fW 8 [] rfl rfl (λG hG=>EvA.alR 8 RX rfl rfl<|hG.a0 rfl) ?_;refine fV 8 [] rfl rfl (λG hG=>EvA.st (cs:=cpC s aae 0 0) ⟨0,4,92,[cpC s aae 0 0]⟩ yn rfl rfl (hG.a0 rfl) rfl rfl rfl rfl rfl rfl)<|TF.nil ?_;refine T.seq ?_;refine T.sr<|oN as'<|TO.nil<|T.block ?_;refine T.loop (S:=Nat) (G:=Unit) (E:=Nat) (x:=s.buf.length) (λi=>if i<s.buf.length then aag (.inl<|i+1) else aag (.inr i)) (λi _=>i<=s.buf.length)
  (λi _=>[(4,I (i:Nat)),(3,.hp 8 0 4 0 0),(2,.hp 7 0 4 0 0),(1,.fp (ZZ.c s) 0)])
  (λi _=>cpH KR s b i (s.buf.take i) KR) (s0:=0) ()
  (JN (λi=>i) s.buf.length (λi hi=>by simp[hi])<|by simp) (Nat.zero_le _) (kw rfl rfl) (λi u z hz hle=>?_)
 have htl:(s.buf.take i).length=i:=by rw[List.length_take];omega
 generalize hs:s.buf.take i=l at htl ⊢;refine T.seq<|T.sr<|oN mv<|oN (fa D7 rfl)<|oN (lf (eL (cL cI) s.buf) Jd rfl)<|oN (ZT.lenL wo rfl)<|oN (ZT.ilt rfl rfl)<|TO.nil ?_;refine T.cond rfl (λqc=>?_) λqc=>?_
 .have hi:i<s.buf.length:=by have:=of_decide_eq_true qc;omega
  rw[if_pos hi] at hz;obtain rfl:=osl hz;have hrow:=f5 i;have htk:=Y7 s.buf hi;rw[hs] at htk;generalize hr:s.buf.getD i aad=r at hrow htk;have e1:=Ms 1 r b l;have e2:=SG 1 r b l;have hll:=Jo 1 b l;have e3:(l++[r]).isEmpty=aaf:=by simp
  have e4:l.isEmpty=aae->rwB 1 b l=[]:=λh=>by
   cases l with
   |nil=>rfl
   |cons a t=>cases h
  refine T.skip<|T.seq<|T.block ?_
  by_cases hb:l.length=b
  .rw[if_pos hb] at e1 e2;have e0:=(SH 1 b l<|by omega).1;unfold cpH;rw[e0];refine T.drawX [0,3,4,5,6,7,1,2,8,9,10,11,12] (λi=>([(aaf,[]),(aaf,[8]),(aae,[6]),(aaf,[]),(aaf,[]),(aaf,[]),(aaf,[]),(aaf,[]),(aae,[6]),(aae,[]),(aae,[5]),(aaf,[]),(aae,[8])]:List Xc).getD i (aaf,[])) (by kernel_rfl) (by kernel_rfl) (by kernel_rfl) ?_;refine xN rfl rfl (fa D7 rfl)<|xN rfl rfl (fa D7 rfl)<|xN rfl rfl (lf (eL (cL cI) s.buf) Jd rfl)<|xN rfl rfl mv<|xN rfl rfl (ZT.ixL wo rfl rfl ⟨by omega,by omega⟩ λ_=>rfl)<|xN rfl rfl (lf (eL cI r) AX<|by subst hr;rfl) ?_;refine xR [8] rfl rfl rfl (λG hG=>EvA.loadhp (hS l.isEmpty 5 i 1 l.length) Jd rfl (hG.a0 rfl) rfl rfl rfl rfl) ?_;refine xA rfl rfl (EvA.mkOR (c:=cI) 6 ([]:LI) [] iq rfl rfl rfl (λ_=>rfl) (λ_=>rfl) rfl rfl) fB ?_;refine xA rfl rfl (EvA.appF (l:=([]:LI)) r iq (by kernel_rfl) rfl rfl rfl (bH.fz (l:=r) rfl λ_=>rfl)<|UA (by simp;omega) rfl) fB ?_;refine xA rfl rfl (EvA.mkR [[hS aaf 6 (0+1) 1 r.length]] wo rfl rfl rfl rfl) qI ?_;refine xA rfl rfl (EvA.appR (g:=l.isEmpty) (rows:=rwB 1 b l) (rows':=rwB 1 b<|l++[r]) (n':=(l++[r]).length) wo (by kernel_rfl) rfl rfl hll.symm e4 (bH.raw (rows:=[[hS aaf 6 (0+1) 1 r.length]]) rfl rfl rfl) (UA (by simp;omega) rfl) e1.symm<|by simp) fB ?_;refine xN rfl rfl (fa D7 rfl) ?_;refine xV rfl rfl (EvA.st (cs:=[hS aaf 5 (i+1) 1 (l++[r]).length]) ⟨0,4,92,[cpC s aaf (i+1) (l++[r]).length]⟩ Jd rfl rfl rfl rfl rfl rfl rfl rfl rfl) fB ?_;refine TX.nil ?_;refine T.cut (e0:=ak [(4,I (i:Nat)),(3,.hp 8 0 4 0 0),(2,.hp 7 0 4 0 0),(1,.fp (ZZ.c s) 0)]) (H0:=[KR,aah,bE aaf (0+1) 1 3 (s.at_.map cI),bE aaf (0+1) 1 3 (s.regs.map cI),bE aaf (0+1) 1 3 (s.mem.map cI),bE aaf (i+1) 1 25 (rwB 1 b<|l++[r]),bE aaf 1 1 3 (r.map cI),KR,aag ⟨0,4,92,[cpC s aaf (i+1) (l++[r]).length]⟩])
    (qH rfl (.cons (.row (.cons (.fz (.of_isF 9 _ rfl)) (.cons (.fz (.of_isF 9 _ rfl)) (.cons (.fz (.of_isF 9 _ rfl)) (.cons (.fz (.of_isF 9 _ rfl)) .nil))))) (.cons .dead (.cons (.list (g:=false) (ver:=0+1) (l:=s.at_) (λ_=>rfl)) (.cons (.list (g:=false) (ver:=0+1) (l:=s.regs) (λ_=>rfl)) (.cons (.list (g:=false) (ver:=0+1) (l:=s.mem) (λ_=>rfl)) (.cons (.rows (KM rfl 1 b (l++[r]))) (.cons (.list (g:=false) (ver:=0+1) (l:=r) (λ_=>rfl)) (.cons (.row (.cons (.fz (.of_isF 9 _ rfl)) (.cons (.fz (.of_isF 9 _ rfl)) (.cons (.fz (.of_isF 9 _ rfl)) (.cons (.fz (.of_isF 9 _ rfl)) .nil))))) (.cons (.row (.cons (.hS (g:=false) (b:=2) rfl) (.cons (.hS (g:=false) (b:=3) rfl) (.cons (.hS (g:=false) (b:=4) rfl) (.cons (.hS (g:=false) (b:=5) rfl) .nil))))) .nil)))))))))
     (ai (.fz (.of_isF 9 _ rfl)) (ai (.hp (nlb rfl)) (ai (.hp (nlb rfl)) (ai (.fz (.of_isF 9 _ rfl)) aO))))) ?_
   refine T.region<|oN mv ?_;refine oN (ZT.add rfl rfl<|IntWalk.i64_in _ ⟨by omega,by omega⟩) ?_;refine oN (ZT.asg (I (i+1:Nat)) rfl)<|TO.nil ?_;refine⟨i+1,u,rfl,hi,kw ?_ rfl⟩;simp only[];rw[htk,e2,e3]
  rw[if_neg hb] at e1 e2;unfold cpH;refine T.drawX [0,3,4,5,6,7,1,2,8,9,10,11,12] (λi=>([(aaf,[]),(aaf,[8]),(aae,[]),(aaf,[]),(aaf,[]),(aaf,[]),(aaf,[]),(aaf,[]),(aae,[9]),(aae,[]),(aae,[5]),(aaf,[]),(aae,[8])]:List Xc).getD i (aaf,[])) (by kernel_rfl) (by kernel_rfl) (by kernel_rfl) ?_;refine xN rfl rfl (fa D7 rfl)<|xN rfl rfl (fa D7 rfl)<|xN rfl rfl (lf (eL (cL cI) s.buf) Jd rfl)<|xN rfl rfl mv<|xN rfl rfl (ZT.ixL wo rfl rfl ⟨by omega,by omega⟩ λ_=>rfl)<|xN rfl rfl (lf (eL cI r) AX<|by subst hr;rfl) ?_;refine xR [8] rfl rfl rfl (λG hG=>EvA.loadhp (hS l.isEmpty 5 i 1 l.length) Jd rfl (hG.a0 rfl) rfl rfl rfl rfl) ?_;refine xA rfl rfl (EvA.mkO (c:=cI) ([]:LI) [] iq rfl rfl rfl (λ_=>rfl) rfl rfl) qI ?_;refine xA rfl rfl (EvA.appF (l:=([]:LI)) r iq (by kernel_rfl) rfl rfl rfl (bH.fz (l:=r) rfl λ_=>rfl)<|UA (by simp;omega) rfl) fB ?_;refine xA rfl rfl (EvA.mkR [[hS aaf 9 (0+1) 1 r.length]] wo rfl rfl rfl rfl) qI ?_;refine xA rfl rfl (EvA.appR (g:=l.isEmpty) (rows:=rwB 1 b l) (rows':=rwB 1 b l++[[hS aaf 9 (0+1) 1 r.length]]) (n':=(l++[r]).length) wo (by kernel_rfl) rfl rfl hll.symm e4 (bH.raw (rows:=[[hS aaf 9 (0+1) 1 r.length]]) rfl rfl rfl) (UA (by simp;omega) rfl) rfl<|by simp) fB ?_;refine xN rfl rfl (fa D7 rfl) ?_;refine xV rfl rfl (EvA.st (cs:=[hS aaf 5 (i+1) 1 (l++[r]).length]) ⟨0,4,92,[cpC s aaf (i+1) (l++[r]).length]⟩ Jd rfl rfl rfl rfl rfl rfl rfl rfl rfl) fB ?_;refine TX.nil ?_;refine T.cut (e0:=ak [(4,I (i:Nat)),(3,.hp 8 0 4 0 0),(2,.hp 7 0 4 0 0),(1,.fp (ZZ.c s) 0)]) (H0:=[KR,aah,bE aaf (0+1) 1 3 (s.at_.map cI),bE aaf (0+1) 1 3 (s.regs.map cI),bE aaf (0+1) 1 3 (s.mem.map cI),bE aaf (i+1) 1 25 (rwB 1 b<|l++[r]),rbB 1 b l,KR,aag ⟨0,4,92,[cpC s aaf (i+1) (l++[r]).length]⟩])
   (qH rfl (.cons (.row (.cons (.fz (.of_isF 9 _ rfl)) (.cons (.fz (.of_isF 9 _ rfl)) (.cons (.fz (.of_isF 9 _ rfl)) (.cons (.fz (.of_isF 9 _ rfl)) .nil))))) (.cons .dead (.cons (.list (g:=false) (ver:=0+1) (l:=s.at_) (λ_=>rfl)) (.cons (.list (g:=false) (ver:=0+1) (l:=s.regs) (λ_=>rfl)) (.cons (.list (g:=false) (ver:=0+1) (l:=s.mem) (λ_=>rfl)) (.cons (WE hb rfl) (.cons (NC 1 b l) (.cons (.row (.cons (.fz (.of_isF 9 _ rfl)) (.cons (.fz (.of_isF 9 _ rfl)) (.cons (.fz (.of_isF 9 _ rfl)) (.cons (.fz (.of_isF 9 _ rfl)) .nil))))) (.cons (.row (.cons (.hS (g:=false) (b:=2) rfl) (.cons (.hS (g:=false) (b:=3) rfl) (.cons (.hS (g:=false) (b:=4) rfl) (.cons (.hS (g:=false) (b:=5) rfl) .nil))))) .nil)))))))))
    (ai (.fz (.of_isF 9 _ rfl)) (ai (.hp (nlb rfl)) (ai (.hp (nlb rfl)) (ai (.fz (.of_isF 9 _ rfl)) aO))))) ?_
  refine T.region<|oN mv ?_;refine oN (ZT.add rfl rfl<|IntWalk.i64_in _ ⟨by omega,by omega⟩) ?_;refine oN (ZT.asg (I (i+1:Nat)) rfl)<|TO.nil ?_;refine⟨i+1,u,rfl,hi,kw ?_ rfl⟩;simp only[];rw[htk,e2,e3]
 have hi : ¬ i<s.buf.length:=by have:=of_decide_eq_false qc;omega
 rw[if_neg hi] at hz;obtain rfl:=osl hz;refine T.exit ?_;refine⟨_,rfl,λhe=>?_⟩;subst he;rw[List.take_length] at hs;subst hs;refine T.sr ?_;refine oA (lh (.agg<|cpC s s.buf.isEmpty s.buf.length s.buf.length) yn rfl rfl rfl) ?_;refine oV (EvA.st (cs:=cpC s s.buf.isEmpty s.buf.length s.buf.length) ⟨0,4,92,[cpC s s.buf.isEmpty s.buf.length s.buf.length]⟩ yn rfl (by generalize s.buf.isEmpty=gq0;cases gq0 <;> rfl) rfl rfl rfl rfl rfl rfl rfl) ?_;refine TO.nil ?_;refine T.ret ?_
 repeat first|refine pG ?_|refine pI ?_
 exact⟨ak [(2,.hp 7 0 4 0 0)],_,kw rfl rfl,Fin.ret (vs:=[.agg (cpC s s.buf.isEmpty s.buf.length s.buf.length)]) (.cons (.cell (.agg<|cpC s s.buf.isEmpty s.buf.length s.buf.length) yn rfl rfl rfl rfl rfl rfl) .nil) ⟨rfl,rfl⟩⟩
abbrev ouC(a r m:Nat)(b:LL)(la lr lm:LI):List AV:=[hS aaf 2 a 1 la.length,hS aaf 3 r 1 lr.length,hS aaf 4 m 1 lm.length,eL (cL cI) b]
abbrev ouH(a r m:Nat)(b:LL)(la lr lm:LI):AH:=[KR,aag ⟨0,4,92,[ouC a r m b la lr lm]⟩,bE aaf a 1 3 (la.map cI),bE aaf r 1 3 (lr.map cI),bE aaf m 1 3 (lm.map cI)]
abbrev cpO(s:ZZ):Option ABlk:=aag ⟨0,4,92,[cpC s s.buf.isEmpty s.buf.length s.buf.length]⟩
theorem cpS{e:Env}{en:List (Nat×AV)}{s:ZZ}{b:Nat}{x y:Option ABlk}(hs:∀t,Stl 5 [KR,cpO s,bE aaf (0+1) 1 3 (s.at_.map cI),bE aaf (0+1) 1 3 (s.regs.map cI),bE aaf (0+1) 1 3 (s.mem.map cI),bE s.buf.isEmpty s.buf.length 1 25 (rwB 1 b s.buf),rbB 1 b s.buf,x,y] (e t)<|ak en t) :
  bK 0 e [KR,cpO s,bE aaf (0+1) 1 3 (s.at_.map cI),bE aaf (0+1) 1 3 (s.regs.map cI),bE aaf (0+1) 1 3 (s.mem.map cI),bE s.buf.isEmpty s.buf.length 1 25 (rwB 1 b s.buf),rbB 1 b s.buf,x,y] (ak en) (ouH (0+1) (0+1) (0+1) s.buf s.at_ s.regs s.mem):=
 qH rfl (.cons (.row<|.cons (.fz<|.of_isF 9 _ rfl)<|.cons (.fz<|.of_isF 9 _ rfl)<|.cons (.fz<|.of_isF 9 _ rfl)<|.cons (.fz<|.of_isF 9 _ rfl) .nil)<|.cons (.row<|.cons (.hS (g:=false) (b:=2) rfl)<|.cons (.hS (g:=false) (b:=3) rfl)<|.cons (.hS (g:=false) (b:=4) rfl)<|.cons (.fz<|SJ (ver:=s.buf.length) (b:=b) rfl rfl rfl rfl) .nil)<|.cons (.list (g:=false) (ver:=0+1) (l:=s.at_) λ_=>rfl)<|.cons (.list (g:=false) (ver:=0+1) (l:=s.regs) λ_=>rfl)<|.cons (.list (g:=false) (ver:=0+1) (l:=s.mem) λ_=>rfl) .nil) hs
theorem Jp(p:List<|List ZW)(s:ZZ)(t:Int){q}(h:uS p s t=aag q):aF aaj 136 [eL (cL ZW.c) p,.agg (ZZ.c s),I t] (.agg<|ZZ.c q):=by
 unfold uS J at h;obtain⟨hp,h⟩:=gdL h;obtain⟨g2,h⟩:=gdD h;obtain⟨g3,h⟩:=gdD h;obtain⟨g4,h⟩:=gdD h;obtain⟨g5,h⟩:=gdW h;refine pM func136 Z (by kernel_rfl) Z ?_;refine jI<|oN (ZT.bxF (ZZ.c s) Z Z Z)<|oA (EvA.al RX Z Z)<|jA<|jH<|T.reserve ?_;refine jC<|oN (lf (.agg<|ZZ.c s) yn Z)<|oA (EvA.call Z Z Z<|Ir s hp s.buf.length) ?_;refine oA (EvA.alR 1 RX Z Z Z) ?_;refine oV (EvA.st (cs:=cpC s s.buf.isEmpty s.buf.length s.buf.length) ⟨0,4,92,[cpC s s.buf.isEmpty s.buf.length s.buf.length]⟩ yn Z (by generalize s.buf.isEmpty=gq0;cases gq0 <;> rfl) Z Z Z Z Z Z Z) ?_;refine jA ?_;refine T.cut (e0:=ak [(7,.hp 1 0 4 0 0),(6,.hp 0 0 4 0 0),(4,.fp (ZZ.c s) 0),(2,I t),(0,eL (cL ZW.c) p)]) (H0:=ouH (0+1) (0+1) (0+1) s.buf s.at_ s.regs s.mem) (cpS<|ai (.hp<|nlb Z)<|ai (.hp<|nlb Z)<|ai (.fz<|qD Z)<|ai (.fz<|qD Z)<|ai (.fz<|qD Z) aO) ?_;refine jH<|T.reserve<|jP (dG [dF,dF,dF,dF,dF,dF,dF,dF,dF,dF,dF,([5],aae),([5],aae)]) (by kernel_rfl) (by kernel_rfl)<|fN Z mv ?_;refine fN Z mv<|fN Z (ZT.ixL Ha Z Z g2 qE)<|fN Z (lf (eL ZW.c<|J p t) Ko Z)<|fN Z (fa D7 Z)<|fN Z (lf (eL cI s.at_) AX Z)<|fN Z mv<|fN Z (ZT.ixL iq Z Z g3 qE)<|fN Z (lf (I<|J s.at_ t) Z8 Z)<|fN Z (ZT.ixL BS Z Z g4 qE)<|fN Z (lf (.agg<|ZW.c<|Ni p s t) xw Z)<|fW 5 [] Z Z (λG hG=>EvA.alR 5 L9 Z Z<|hG.a0 Z)<|fV 5 [] Z Z (λG hG=>EvA.st (cs:=ZW.c<|Ni p s t) ⟨0,4,113,[ZW.c (Ni p s t)]⟩ xw Z Z (hG.a0 Z) Z Z Z Z Z Z)<|jR ?_;generalize Ni p s t=x at h ⊢;refine jH<|jP (dG [dF,([1],aaf),dF,dF,dF,dF,dF,dF,dF,dF,([2],aae)]) (by kernel_rfl) (by kernel_rfl)<|fN Z (fa D7 Z)<|fR [1] Z (λG hG=>EvA.loadhp (hS aaf 2 (0+1) 1 s.at_.length) AX Z (hG.a0 Z) Z Z Z Z)<|fN Z mv<|fN Z (fa D7 Z)<|fN Z (lf (eL cI s.at_) AX Z)<|fN Z mv<|fN Z (ZT.ixL iq Z Z g3 qE)<|fN Z (lf (I<|J s.at_ t) Z8 Z)<|fN Z (ZT.add Z Z g5)<|fN Z (ZT.ixO (g:=false) iq Z Z nofun g3)<|fV 2 [] Z Z (λG hG=>EvA.stO (g:=false) (l:=s.at_) (cs:=[I ((J s.at_ t)+V)]) ((J s.at_ t)+V) Z8 Z Z (hG.a0 Z) nofun (aS Z g3) Z Z Z)<|jR ?_;have hat:(s.at_.set t.toNat<|(J s.at_ t)+V).length=s.at_.length:=afl;unfold zq J at h
 revert h
 generalize s.at_.set t.toNat ((J s.at_ t)+V)=at1 at hat ⊢;intro h;refine T.jF (G:=Nat) h (λs7 gh=>True) (λs7 gh=>[(8,.hp 5 0 4 0 0),(7,.hp 1 0 4 0 0),(6,.hp 0 0 4 0 0),(4,.fp (ZZ.c s) 0),(2,I t)]) (λs7 gh=>ouH (0+1) gh (0+1) s.buf at1 s7 s.mem++[aag ⟨0,4,113,[ZW.c x]⟩]) (λs7 u13 h hg=>?_) λs7 h=>?_
 .refine T.jF (G:=Nat) h (λs14 gh=>True) (λs14 gh=>[(7,.hp 1 0 4 0 0),(6,.hp 0 0 4 0 0)]) (λs14 gh=>ouH (0+1) u13 gh s.buf at1 s7 s14++[aag ⟨0,4,113,[ZW.c x]⟩]) (λs14 u19 h hg=>?_) λs14 h=>?_
  .refine jI<|oA (lh (.agg<|ouC (0+1) u13 u19 s.buf at1 s7 s14) yn Z Z Z)<|oV (sr (ouC (0+1) u13 u19 s.buf at1 s7 s14) yn Z Z Z Z)<|jA<|jK ?_;obtain rfl:=ZV h
   repeat first|refine pG ?_|refine pI ?_
   exact jQ (vs:=[.agg (ouC (0+1) u13 u19 s.buf at1 s7 s14)]) (.cons (.cell (.agg<|ouC (0+1) u13 u19 s.buf at1 s7 s14) yn Z Z Z Z Z Z) .nil)<|Fz.aggL<|.cons (Fz.own (g:=false) (ver:=0+1) (l:=at1) Z Z Z nofun qE)<|.cons (Fz.own (g:=false) (ver:=u13) (l:=s7) Z Z Z nofun qE)<|.cons (Fz.own (g:=false) (ver:=u19) (l:=s14) Z Z Z nofun qE)<|.cons (qD Z) .nil
  refine jI<|oA (lh (.agg<|ZW.c x) xw Z Z Z)<|oC h (λ_=>wR _) Z Z Z Z λv15 _ h=>jA ?_;refine jN Z h (λq16 h=>?_) λq16 h=>?_
  .refine jP (dG [dF,([1],aaf),dF,([5],aaf),dF,dF,([5],aaf),dF,dF,([4],aae)]) (by kernel_rfl) (by kernel_rfl)<|fN Z (fa D7 Z)<|fR [1] Z (λG hG=>EvA.loadhp (hS aaf 4 (0+1) 1 s.mem.length) AX Z (hG.a0 Z) Z Z Z Z)<|fN Z (fa Em Z)<|fR [5] Z (λG hG=>EvA.loadhp (I x.Loc) Z8 Z (hG.a0 Z) Z Z Z Z)<|fN Z (lf (.agg<|ZZ.c s) yn Z)<|fN Z mv<|fR [5] Z (λG hG=>EvA.loadhp (.agg<|ZW.c x) xw Z (hG.a0 Z) Z Z Z Z)<|fC h (λ_=>yA _ _ _) Z Z Z Z Z λv17 _ h=>jD h λg18 h=>fN Z (ZT.ixO (g:=false) iq Z Z nofun g18)<|fV 4 [] Z Z (λG hG=>EvA.stO (g:=false) (l:=s.mem) (cs:=[I v17]) v17 Z8 Z Z (hG.a0 Z) nofun (aS Z g18) Z Z Z)<|jR ?_
   cases h
   exact⟨0+1,trivial,kw (by simp only[ouH,ouC,afl] <;> rfl) Z⟩
  refine jG ?_
  cases h
  exact⟨0+1,trivial,kw Z Z⟩
 refine jH<|T.clean (H0:=ouH (0+1) (0+1) (0+1) s.buf at1 s.regs s.mem++[aag ⟨0,4,113,[ZW.c x]⟩]) (e0:=ak [(8,.hp 5 0 4 0 0),(7,.hp 1 0 4 0 0),(6,.hp 0 0 4 0 0),(4,.fp (ZZ.c s) 0),(2,I t)]) (by simp only[ouH,ouC,hat] <;> rfl) (ZR Z<|ZR Z<|ZR Z<|ZR Z<|ZR Z ZQ)<|jC<|oA (lh (.agg<|ZW.c x) xw Z Z Z)<|oC h (λ_=>yu _) Z Z Z Z λv8 _ h=>jA ?_;refine jN Z h (λq9 h=>?_) λq9 h=>?_
 .refine jP (dG [dF,([1],aaf),dF,dF,([5],aaf),dF,dF,dF,dF,([5],aaf),dF,dF,dF,([3],aae)]) (by kernel_rfl) (by kernel_rfl)<|fN Z (fa D7 Z)<|fR [1] Z (λG hG=>EvA.loadhp (hS aaf 3 (0+1) 1 s.regs.length) AX Z (hG.a0 Z) Z Z Z Z)<|fN Z mv<|fN Z (fa Em Z)<|fR [5] Z (λG hG=>EvA.loadhp (I x.Reg) Z8 Z (hG.a0 Z) Z Z Z Z)<|fC h (λ_=>Aw _ _) Z Z Z Z Z λv10 _ h=>fN Z (fa D7 Z)<|fN Z (lf (eL cI s.mem) AX Z)<|fN Z (fa Em Z)<|fR [5] Z (λG hG=>EvA.loadhp (I x.Loc) Z8 Z (hG.a0 Z) Z Z Z Z)<|jD h λg11 h=>fN Z (ZT.ixL iq Z Z g11 qE)<|fN Z (lf (I<|J s.mem x.Loc) Z8 Z)<|jD h λg12 h=>fN Z (ZT.ixO (g:=false) iq Z Z nofun g12) ?_;refine fV 3 [] Z Z (λG hG=>EvA.stO (g:=false) (l:=s.regs) (cs:=[I (J s.mem x.Loc)]) (J s.mem x.Loc) Z8 Z Z (hG.a0 Z) nofun (aS Z g12) Z Z Z)<|jR ?_
  cases h
  exact⟨0+1,trivial,kw (by simp only[ouH,ouC,afl] <;> rfl) Z⟩
 refine jG ?_
 cases h
 exact⟨0+1,trivial,kw Z Z⟩
def Py(p:List<|List ZW)(s:ZZ)(split:Bool)(move:Int):Nat:=match fQ move (Ni p s move).Loc split with
 |some v=>v.toNat
 |none=>0
abbrev dC(a r m:Nat)(g:Bool)(u n:Nat)(la lr lm:LI):List AV:=[hS aaf 2 a 1 la.length,hS aaf 3 r 1 lr.length,hS aaf 4 m 1 lm.length,hS g 5 u 1 n]
abbrev dH(a r m:Nat)(g:Bool)(u n:Nat)(rows:List<|List AV)(R:Option ABlk)(la lr lm:LI):AH:=[KR,aag ⟨0,4,92,[dC a r m g u n la lr lm]⟩,bE aaf a 1 3 (la.map cI),bE aaf r 1 3 (lr.map cI),bE aaf m 1 3 (lm.map cI),bE g u 1 25 rows,R]
theorem dS{e:Env}{en:List (Nat×AV)}{s:ZZ}{b:Nat}{x y:Option ABlk}(hs:∀t,Stl 7 [KR,cpO s,bE aaf (0+1) 1 3 (s.at_.map cI),bE aaf (0+1) 1 3 (s.regs.map cI),bE aaf (0+1) 1 3 (s.mem.map cI),bE s.buf.isEmpty s.buf.length 1 25 (rwB 1 b s.buf),rbB 1 b s.buf,x,y] (e t)<|ak en t) :
  bK 0 e [KR,cpO s,bE aaf (0+1) 1 3 (s.at_.map cI),bE aaf (0+1) 1 3 (s.regs.map cI),bE aaf (0+1) 1 3 (s.mem.map cI),bE s.buf.isEmpty s.buf.length 1 25 (rwB 1 b s.buf),rbB 1 b s.buf,x,y] (ak en) (dH (0+1) (0+1) (0+1) s.buf.isEmpty s.buf.length s.buf.length (rwB 1 b s.buf) (rbB 1 b s.buf) s.at_ s.regs s.mem):=
 qH rfl (.cons (.row<|.cons (.fz<|.of_isF 9 _ rfl)<|.cons (.fz<|.of_isF 9 _ rfl)<|.cons (.fz<|.of_isF 9 _ rfl)<|.cons (.fz<|.of_isF 9 _ rfl) .nil)<|.cons (.row<|.cons (.hS (g:=false) (b:=2) rfl)<|.cons (.hS (g:=false) (b:=3) rfl)<|.cons (.hS (g:=false) (b:=4) rfl)<|.cons (.hS (b:=5) rfl) .nil)<|.cons (.list (g:=false) (ver:=0+1) (l:=s.at_) λ_=>rfl)<|.cons (.list (g:=false) (ver:=0+1) (l:=s.regs) λ_=>rfl)<|.cons (.list (g:=false) (ver:=0+1) (l:=s.mem) λ_=>rfl)<|.cons (.rows<|KM rfl 1 b s.buf)<|.cons (NC 1 b s.buf) .nil) hs
theorem dK{e:Env}{en:List (Nat×AV)}{a r m u n b:Nat}{g:Bool}{l:LL}{la lr lm:LI}{z:Option ABlk}(hs:∀t,Stl 7 [KR,aag ⟨0,4,92,[dC a r m g u n la lr lm]⟩,bE aaf a 1 3 (la.map cI),bE aaf r 1 3 (lr.map cI),bE aaf m 1 3 (lm.map cI),bE g u 1 25 (rwB 1 b l),rbB 1 b l,z] (e t)<|ak en t) :
  bK 0 e [KR,aag ⟨0,4,92,[dC a r m g u n la lr lm]⟩,bE aaf a 1 3 (la.map cI),bE aaf r 1 3 (lr.map cI),bE aaf m 1 3 (lm.map cI),bE g u 1 25 (rwB 1 b l),rbB 1 b l,z] (ak en) (dH a r m g u n (rwB 1 b l) (rbB 1 b l) la lr lm):=
 qH rfl (.cons (.row<|.cons (.fz<|.of_isF 9 _ rfl)<|.cons (.fz<|.of_isF 9 _ rfl)<|.cons (.fz<|.of_isF 9 _ rfl)<|.cons (.fz<|.of_isF 9 _ rfl) .nil)<|.cons (.row<|.cons (.hS (g:=false) (b:=2) rfl)<|.cons (.hS (g:=false) (b:=3) rfl)<|.cons (.hS (g:=false) (b:=4) rfl)<|.cons (.hS (b:=5) rfl) .nil)<|.cons (.list (g:=false) (ver:=a) (l:=la) λ_=>rfl)<|.cons (.list (g:=false) (ver:=r) (l:=lr) λ_=>rfl)<|.cons (.list (g:=false) (ver:=m) (l:=lm) λ_=>rfl)<|.cons (.rows<|KM rfl 1 b l)<|.cons (NC 1 b l) .nil) hs
theorem SK(v:Nat):∀(b:Nat)(l:LL)(k:Nat),k<l.length->∃a,(rwB v b l)[k]?=aag [a]
 |_,[],_,h=>absurd h (afn _)
 |0,a::t,0,_=>⟨_,rfl⟩
 |0,a::t,k+1,h=>⟨eL cI (t.getD k aad),by
  show(t.map<|cL cI)[k]?=_;have h':k<t.length:=afq h;rw[afm,geq h',gdq,geq h']
  rfl⟩
 |b+1,a::t,0,_=>⟨_,rfl⟩
 |b+1,a::t,k+1,h=>SK v b t k (afq h)
theorem Jq(p:List<|List ZW)(s:ZZ)(split:Bool)(move:Int){q}(h:lL p s split move=aag q):aF aaj 71 [eL (cL ZW.c) p,.agg (ZZ.c s),Bo split,I move] (.agg<|ZZ.c q):=by
 unfold lL J at h;obtain⟨hp,h⟩:=gdL h;obtain⟨f1,f2,f3,f4,f5⟩:=ND hp;refine pM func71 Z (by kernel_rfl) Z ?_;refine jI<|oN (ZT.bxF (ZZ.c s) Z Z Z)<|oA (EvA.al RX Z Z)<|jA<|jH<|T.reserve ?_;refine jC<|oN (lf (.agg<|ZZ.c s) yn Z)<|oA (EvA.call Z Z Z<|Ir s hp<|Py p s split move) ?_;refine oA (EvA.alR 1 RX Z Z Z) ?_;refine oV (EvA.st (cs:=cpC s s.buf.isEmpty s.buf.length s.buf.length) ⟨0,4,92,[cpC s s.buf.isEmpty s.buf.length s.buf.length]⟩ yn Z (by generalize s.buf.isEmpty=gq0;cases gq0 <;> rfl) Z Z Z Z Z Z Z) ?_;refine jA ?_;refine T.cut (e0:=ak [(9,.hp 1 0 4 0 0),(8,.hp 0 0 4 0 0),(5,.fp (ZZ.c s) 0),(2,Bo split),(3,I move),(0,eL (cL ZW.c) p)]) (H0:=dH (0+1) (0+1) (0+1) s.buf.isEmpty s.buf.length s.buf.length (rwB 1 (Py p s split move) s.buf) (rbB 1 (Py p s split move) s.buf) s.at_ s.regs s.mem) (dS<|ai (.hp<|nlb Z)<|ai (.hp<|nlb Z)<|ai (.fz<|qD Z)<|ai (.fz<|qD Z)<|ai (.fz<|qD Z)<|ai (.fz<|qD Z) aO) ?_;refine jH<|jI<|oN mv<|oN mv<|oN (ZT.lenL Ha Z)<|oN (ZT.ige Z Z)<|jA ?_;refine jN Z h (λq1 h=>?_) λq1 h=>?_
 .obtain⟨g1,h⟩:=gdW h;obtain⟨g2,h⟩:=gdD h;have hne:s.buf.isEmpty=aaf:=by
   cases hb:s.buf with
   |nil=>rw[hb] at g2;simp at g2;omega
   |cons a t=>rfl
  have hk:(move-(p.length:Int)).toNat<s.buf.length:=by omega
  have hr5:=f5 (move-(p.length:Int)).toNat;obtain⟨a0,hrow⟩:=SK 1 (Py p s split move) s.buf _ hk;refine jI<|oN (fa D7 Z)<|oN (lf (eL (cL cI) s.buf) Jd Z)<|oN mv<|oN mv<|oN (ZT.lenL Ha Z)<|oN (ZT.sub Z Z g1)<|oN (ZT.ixL wo Z Z g2 qE)<|oN (lf (eL cI<|J s.buf<|move-(p.length:Int)) AX Z)<|oN as'<|jA ?_;unfold zt J at h;obtain⟨g3,h⟩:=gdD h;obtain⟨g4,h⟩:=gdD h;generalize hrr:s.buf.getD (move-(p.length:Int)).toNat aad=r at h hr5 g3 g4 ⊢;refine jH<|jP (dG [dF,([1],aaf),dF,dF,dF,dF,dF,dF,dF,([4],aae)]) (by kernel_rfl) (by kernel_rfl)<|fN Z (fa D7 Z) ?_;refine fR [1] Z (λG hG=>EvA.loadhp (hS aaf 4 (0+1) 1 s.mem.length) AX Z (hG.a0 Z) Z Z Z Z) ?_;refine fN Z mv<|fN Z (ZT.ixL iq Z Z ⟨by omega,by omega⟩ qE)<|fN Z (lf (I<|J r (0:Int)) Z8 Z)<|fN Z mv<|fN Z (ZT.ixL iq Z Z ⟨by omega,by omega⟩ qE)<|fN Z (lf (I<|J r (1:Int)) Z8 Z)<|fN Z (ZT.ixO (g:=false) iq Z Z nofun g4) ?_;refine fV 4 [] Z Z (λG hG=>EvA.stO (g:=false) (l:=s.mem) (cs:=[I (J r V)]) (J r V) Z8 Z Z (hG.a0 Z) nofun (aS Z g4) Z Z Z)<|jR ?_;generalize hm1:s.mem.set (J r U).toNat (J r V)=mem1 at h ⊢;have hml:mem1.length=s.mem.length:=by rw[<- hm1];exact afl
  obtain rfl:=ZV h;refine T.cut (e0:=ak [(10,eL cI r),(9,.hp 1 0 4 0 0),(8,.hp 0 0 4 0 0),(3,I move),(0,eL (cL ZW.c) p)]) (H0:=dH (0+1) (0+1) (0+1) aaf s.buf.length s.buf.length (rwB 1 (Py p s split move) s.buf) (rbB 1 (Py p s split move) s.buf) s.at_ s.regs mem1) (kw (by simp only[dH,dC,hml,hne] <;> rfl) Z) ?_;refine jH<|T.drawX [0,2,3,4,5,7,8,1,6,9,10,11] (λi=>([(aaf,[]),(aaf,[1]),(aaf,[]),(aaf,[]),(aaf,[]),(aaf,[]),(aae,[]),(aaf,[]),(aaf,[]),(aae,[7]),(aaf,[]),(aae,[5])]:List Xc).getD i (aaf,[])) (by kernel_rfl) (by kernel_rfl) (by kernel_rfl) ?_;refine xN Z Z (fa D7 Z)<|xN Z Z mv<|xN Z Z mv<|xN Z Z (ZT.lenL Ha Z)<|xN Z Z (ZT.sub Z Z g1)<|xN Z Z mv<|xN Z Z (ZT.slL iq Z (.yes Z) .no ⟨by decide,by omega,Int.le_refl _⟩ qE) ?_;refine xR [1] Z Z Z (λG hG=>EvA.loadhp (hS aaf 5 s.buf.length 1 s.buf.length) Jd Z (hG.a0 Z) Z Z Z Z) ?_;have hdr:(r.drop (2:Int).toNat).take ((r.length:Int).toNat-(2:Int).toNat)=r.drop 2:=by
   rw[show(2:Int).toNat=2 from rfl,show(r.length:Int).toNat=r.length from rfl];exact afr (by rw[List.length_drop];exact Nat.le_refl _)
  have hdl:(r.drop 2).length<=1048576:=by rw[List.length_drop];omega
  rw[hdr];generalize r.drop 2=r2 at hdl ⊢;refine xA Z Z (EvA.mkO (c:=cI) ([]:LI) [] iq Z Z Z qE Z Z) qI ?_;refine xA Z Z (EvA.appF (l:=([]:LI)) r2 iq (by kernel_rfl) Z Z Z (bH.fz (l:=r2) Z qE)<|UA (by simp;omega) Z) fB ?_;refine xN Z Z (ZT.ixO (g:=false) wo Z Z nofun g2) ?_;refine xV Z Z (EvA.st (cs:=[hS aaf 7 (0+1) 1 r2.length]) ⟨s.buf.length,1,25,(rwB 1 (Py p s split move) s.buf).set (move-(p.length:Int)).toNat [hS aaf 7 (0+1) 1 r2.length]⟩ AX Z Z Z Z Z hrow Z Z Z) fB ?_;refine TX.nil ?_;refine jI<|oA (lh (.agg<|dC (0+1) (0+1) (0+1) aaf s.buf.length s.buf.length s.at_ s.regs mem1) yn Z Z Z)<|oV (sr (dC (0+1) (0+1) (0+1) aaf s.buf.length s.buf.length s.at_ s.regs mem1) yn Z Z Z Z)<|jA<|jK ?_
  repeat first|refine pG ?_|refine pI ?_
  refine jQ (vs:=[.agg (dC (0+1) (0+1) (0+1) aaf s.buf.length s.buf.length s.at_ s.regs mem1)]) (.cons (.cell (.agg<|dC (0+1) (0+1) (0+1) aaf s.buf.length s.buf.length s.at_ s.regs mem1) yn Z Z Z Z Z Z) .nil)<|Fz.aggL<|.cons (Fz.own (g:=false) (ver:=0+1) (l:=s.at_) Z Z Z nofun qE)<|.cons (Fz.own (g:=false) (ver:=0+1) (l:=s.regs) Z Z Z nofun qE)<|.cons (Fz.own (g:=false) (ver:=0+1) (l:=mem1) Z Z Z nofun qE)<|.cons ?_ .nil;refine Fz.rows (f:=cL cI) (l:=s.buf.set (move-(p.length:Int)).toNat r2) (rows:=(rwB 1 (Py p s split move) s.buf).set (move-(p.length:Int)).toNat [hS aaf 7 (0+1) 1 r2.length]) Z Z (by rw[afl,Jo]) ?_;rw[List.map_set];exact(WC Z (Py p s split move) s.buf Z).set (.cons (Fz.own (g:=false) (ver:=0+1) (f:=cI) (l:=r2) Z Z Z nofun qE) .nil) _
 obtain⟨g2,h⟩:=gdD h;obtain⟨g3,h⟩:=gdD h;obtain⟨g4,h⟩:=gdD h;refine jG ?_;refine jH<|T.reserve<|jP (dG [dF,dF,dF,dF,dF,dF,dF,dF,dF,dF,dF,([7],aae),([7],aae)]) (by kernel_rfl) (by kernel_rfl)<|fN Z mv ?_;refine fN Z mv<|fN Z (ZT.ixL Ha Z Z g2 qE)<|fN Z (lf (eL ZW.c<|J p move) Ko Z)<|fN Z (fa D7 Z)<|fN Z (lf (eL cI s.at_) AX Z)<|fN Z mv<|fN Z (ZT.ixL iq Z Z g3 qE)<|fN Z (lf (I<|J s.at_ move) Z8 Z)<|fN Z (ZT.ixL BS Z Z g4 qE)<|fN Z (lf (.agg<|ZW.c<|Ni p s move) xw Z)<|fW 7 [] Z Z (λG hG=>EvA.alR 7 L9 Z Z<|hG.a0 Z)<|fV 7 [] Z Z (λG hG=>EvA.st (cs:=ZW.c<|Ni p s move) ⟨0,4,113,[ZW.c (Ni p s move)]⟩ xw Z Z (hG.a0 Z) Z Z Z Z Z Z)<|jR ?_;have hz:∀v,fQ move (Ni p s move).Loc split=aag v->Py p s split move=v.toNat:=λv hv=>by unfold Py;rw[hv]
 generalize Ni p s move=x at h hz ⊢;generalize Py p s split move=b at hz ⊢;refine T.cut (e0:=ak [(11,.fp (ZW.c x) 0),(9,.hp 1 0 4 0 0),(8,.hp 0 0 4 0 0),(5,.fp (ZZ.c s) 0),(2,Bo split),(3,I move),(0,eL (cL ZW.c) p)]) (H0:=dH (0+1) (0+1) (0+1) s.buf.isEmpty s.buf.length s.buf.length (rwB 1 b s.buf) (rbB 1 b s.buf) s.at_ s.regs s.mem) (dK<|ai (.fz<|Fz.fpL (ver:=0) (s:=4) (ty:=113) (rows:=[ZW.c x]) Z Z Z<|.cons (qD Z)<|.cons (qD Z)<|.cons (qD Z)<|.cons (qD Z) .nil)<|ai (.hp<|nlb Z)<|ai (.hp<|nlb Z)<|ai (.fz<|qD Z)<|ai (.fz<|qD Z)<|ai (.fz<|qD Z)<|ai (.fz<|qD Z) aO) ?_;unfold zu J at h;refine jH<|jI<|oN (fa Em Z)<|oN (lf (I x.Op) Z8 Z)<|oN (ZT.ieq Z Z)<|oN mv ?_;refine TO.jB h 4 (λs6=>[(66,Bo s6),(11,.fp (ZW.c x) 0),(9,.hp 1 0 4 0 0),(8,.hp 0 0 4 0 0),(5,.fp (ZZ.c s) 0),(2,Bo split),(3,I move),(0,eL (cL ZW.c) p)]) (λs6=>dH (0+1) (0+1) (0+1) s.buf.isEmpty s.buf.length s.buf.length (rwB 1 b s.buf) (rbB 1 b s.buf) s.at_ s.regs s.mem) (λs6 q2 h js1=>?_) (λs6 q2 h js1=>?_) λs6 h=>?_
 .refine gS Z q2<|gS Z q2<|gS Z q2<|oN (ZT.pickT Z q2 (Bo aae) Z) ?_
  cases h
  exact js1 _ _<|kw Z Z
 .refine gN Z q2 (fa Em Z)<|gN Z q2 (lf (I x.Op) Z8 Z)<|gN Z q2 (ZT.ieq Z Z)<|oN (ZT.pickF Z q2 (Bo<|x.Op==(4:Int)) Z) ?_
  cases h
  exact js1 _ _<|kw Z Z
 refine jA ?_;refine jN Z h (λq3 h=>?_) λq3 h=>?_
 .obtain⟨v9,hv9,h⟩:=ve h;obtain rfl:=ZV h;refine jI<|oN mv<|oN (lf (.agg<|ZZ.c s) yn Z)<|oN mv<|oN (ZT.call Z Z Z (Jp p s move hv9) Z)<|oV (sr (ZZ.c v9) yn Z Z Z Z)<|jA<|jK ?_
  repeat first|refine pG ?_|refine pI ?_
  exact jQ (vs:=[.agg (ZZ.c v9)]) (.cons (.cell (.agg<|ZZ.c v9) yn Z Z Z Z Z Z) .nil)<|qD Z
 obtain⟨g5,h⟩:=gdW h;refine jG<|jH<|jP (dG [dF,([1],aaf),dF,dF,dF,dF,dF,dF,dF,dF,([2],aae)]) (by kernel_rfl) (by kernel_rfl)<|fN Z (fa D7 Z)<|fR [1] Z (λG hG=>EvA.loadhp (hS aaf 2 (0+1) 1 s.at_.length) AX Z (hG.a0 Z) Z Z Z Z)<|fN Z mv<|fN Z (fa D7 Z)<|fN Z (lf (eL cI s.at_) AX Z)<|fN Z mv<|fN Z (ZT.ixL iq Z Z g3 qE)<|fN Z (lf (I<|J s.at_ move) Z8 Z)<|fN Z (ZT.add Z Z g5)<|fN Z (ZT.ixO (g:=false) iq Z Z nofun g3)<|fV 2 [] Z Z (λG hG=>EvA.stO (g:=false) (l:=s.at_) (cs:=[I ((J s.at_ move)+V)]) ((J s.at_ move)+V) Z8 Z Z (hG.a0 Z) nofun (aS Z g3) Z Z Z)<|jR ?_;have hat:(s.at_.set move.toNat<|(J s.at_ move)+V).length=s.at_.length:=afl
 revert h
 generalize s.at_.set move.toNat ((J s.at_ move)+V)=at1 at hat ⊢;intro h;refine T.cut (e0:=ak [(11,.fp (ZW.c x) 0),(9,.hp 1 0 4 0 0),(8,.hp 0 0 4 0 0),(5,.fp (ZZ.c s) 0),(2,Bo split),(3,I move)]) (H0:=dH (0+1) (0+1) (0+1) s.buf.isEmpty s.buf.length s.buf.length (rwB 1 b s.buf) (rbB 1 b s.buf) at1 s.regs s.mem) (kw (by simp only[dH,dC,hat] <;> rfl) Z) ?_;refine jH<|jI<|oN (fa Em Z)<|oN (lf (I x.Op) Z8 Z)<|oN (ZT.ieq Z Z)<|jA ?_;refine jN Z h (λq4 h=>?_) λq4 h=>?_
 .refine jH<|jP (dG [dF,([1],aaf),dF,dF,dF,dF,dF,dF,dF,dF,dF,dF,dF,([3],aae)]) (by kernel_rfl) (by kernel_rfl)<|fN Z (fa D7 Z)<|fR [1] Z (λG hG=>EvA.loadhp (hS aaf 3 (0+1) 1 s.regs.length) AX Z (hG.a0 Z) Z Z Z Z)<|fN Z mv<|fN Z (fa Em Z)<|fN Z (lf (I x.Reg) Z8 Z)<|fC h (λ_=>Aw _ _) Z Z Z Z Z λv13 _ h=>fN Z (lf (.agg<|ZZ.c s) yn Z)<|fN Z mv<|fN Z (fa Em Z)<|fN Z (lf (I x.Loc) Z8 Z)<|fN Z mv<|fC h (λ_=>GL _ _ _ _) Z Z Z Z Z λv14 _ h=>jD h λg12 h=>fN Z (ZT.ixO (g:=false) iq Z Z nofun g12) ?_;refine fV 3 [] Z Z (λG hG=>EvA.stO (g:=false) (l:=s.regs) (cs:=[I v14]) v14 Z8 Z Z (hG.a0 Z) nofun (aS Z g12) Z Z Z)<|jR ?_;have hrl:(s.regs.set v13.toNat v14).length=s.regs.length:=afl;obtain rfl:=ZV h;generalize s.regs.set v13.toNat v14=rg1 at hrl ⊢;refine T.cut (e0:=ak [(9,.hp 1 0 4 0 0),(8,.hp 0 0 4 0 0)]) (H0:=dH (0+1) (0+1) (0+1) s.buf.isEmpty s.buf.length s.buf.length (rwB 1 b s.buf) (rbB 1 b s.buf) at1 rg1 s.mem) (kw (by simp only[dH,dC,hrl] <;> rfl) Z) ?_;refine jI<|oA (lh (.agg<|dC (0+1) (0+1) (0+1) s.buf.isEmpty s.buf.length s.buf.length at1 rg1 s.mem) yn Z Z Z)<|oV (EvA.st (cs:=dC (0+1) (0+1) (0+1) s.buf.isEmpty s.buf.length s.buf.length at1 rg1 s.mem) ⟨0,4,92,[dC (0+1) (0+1) (0+1) s.buf.isEmpty s.buf.length s.buf.length at1 rg1 s.mem]⟩ yn Z (by generalize s.buf.isEmpty=gq0;cases gq0 <;> rfl) Z Z Z Z Z Z Z)<|jA<|jK ?_
  repeat first|refine pG ?_|refine pI ?_
  exact jQ (vs:=[.agg (dC (0+1) (0+1) (0+1) s.buf.isEmpty s.buf.length s.buf.length at1 rg1 s.mem)]) (.cons (.cell (.agg<|dC (0+1) (0+1) (0+1) s.buf.isEmpty s.buf.length s.buf.length at1 rg1 s.mem) yn Z Z Z Z Z Z) .nil)<|Fz.aggL<|.cons (Fz.own (g:=false) (ver:=0+1) (l:=at1) Z Z Z nofun qE)<|.cons (Fz.own (g:=false) (ver:=0+1) (l:=rg1) Z Z Z nofun qE)<|.cons (Fz.own (g:=false) (ver:=0+1) (l:=s.mem) Z Z Z nofun qE)<|.cons (SJ (v:=1) (b:=b) (ver:=s.buf.length) (l:=s.buf) Z Z Z Z) .nil
 refine jG<|jI<|oN mv<|oN (fa Em Z)<|oN (lf (I x.Loc) Z8 Z)<|oN mv<|oC h (λ_=>Fc _ _ _) Z Z Z Z λv20 hv20 h=>oN as'<|jA ?_;obtain rfl:=hz _ hv20;obtain⟨g6,h⟩:=gdD h;have hk:v20.toNat<s.buf.length:=by omega
 have hne:s.buf.isEmpty=aaf:=by
  cases hb:s.buf with
  |nil=>rw[hb] at hk;cases hk
  |cons a t=>rfl
 have hr5:=f5 v20.toNat;obtain⟨e1,hrow⟩:=Ve 1 v20.toNat s.buf hk;have hset:=λw r=>SI 1 w r v20.toNat s.buf hk;have hgd:s.buf.getD v20.toNat []=s.buf.getD v20.toNat aad:=rfl;rw[hgd] at e1 hrow;generalize s.buf.getD v20.toNat aad=row at h hr5 e1 hrow;refine T.cut (e0:=ak [(12,I v20),(11,.fp (ZW.c x) 0),(9,.hp 1 0 4 0 0),(8,.hp 0 0 4 0 0),(5,.fp (ZZ.c s) 0),(3,I move)]) (H0:=dH (0+1) (0+1) (0+1) aaf s.buf.length s.buf.length (rwB 1 v20.toNat s.buf) (bE aaf 1 1 3<|row.map cI) at1 s.regs s.mem) (kw (by rw[<- e1,<- hne]) Z) ?_;refine jH<|jP (dG [dF,([1],aaf),dF,dF,([1],aaf),dF,dF,([5],aaf),dF,dF,dF,dF,dF,dF,dF,([6],aae),dF,([5],aae)]) (by kernel_rfl) (by kernel_rfl)<|fN Z (fa D7 Z) ?_;refine fR [1] Z (λG hG=>EvA.loadhp (hS aaf 5 s.buf.length 1 s.buf.length) Jd Z (hG.a0 Z) Z Z Z Z)<|fN Z mv<|fN Z (fa D7 Z) ?_;refine fR [1] Z (λG hG=>EvA.loadhp (hS aaf 5 s.buf.length 1 s.buf.length) Jd Z (hG.a0 Z) Z Z Z Z)<|fN Z mv<|fN Z (ZT.ixO (g:=false) wo Z Z nofun g6) ?_;refine fR [5] Z (λG hG=>EvA.loadhp (hS aaf 6 1 1 row.length) AX Z (hG.a0 Z) Z Z hrow Z) ?_;refine fN Z (fa Em Z)<|fN Z (lf (I x.Loc) Z8 Z)<|fN Z (lf (.agg<|ZZ.c s) yn Z)<|fN Z mv<|fN Z (lf (.agg<|ZW.c x) xw Z)<|fC h (λ_=>yA _ _ _) Z Z Z Z Z λv21 _ h=>fN Z (ZT.mkF (c:=cI) ([x.Loc,v21]:LI) [[I x.Loc],[I v21]] iq Z Z Z qE qE Z) ?_;refine fW 6 [] Z Z (λG hG=>EvA.appF (l:=row) [x.Loc,v21] iq (by kernel_rfl) Z Z (hG.a0 Z) (bH.fz (l:=[x.Loc,v21]) Z qE)<|UA (by simp;omega) Z) ?_;obtain rfl:=ZV h;generalize row++[x.Loc,v21]=row2;refine fN Z (ZT.ixO (g:=false) wo Z Z nofun g6) ?_;refine fV 5 [] Z Z (λG hG=>EvA.st (cs:=[hS aaf 6 (1+1) 1 row2.length]) ⟨s.buf.length,1,25,(rwB 1 v20.toNat s.buf).set v20.toNat [hS aaf 6 (1+1) 1 row2.length]⟩ AX Z Z (hG.a0 Z) Z Z hrow Z Z Z)<|jR ?_;obtain⟨e3,e4⟩:=hset (1+1) row2;have hbl:(s.buf.set v20.toNat row2).length=s.buf.length:=afl;have hbe:(s.buf.set v20.toNat row2).isEmpty=aaf:=by rw[List.isEmpty_eq_false_iff];intro e;rw[e] at hbl;simp at hbl;omega
 rw[e3];refine T.cut (e0:=ak [(9,.hp 1 0 4 0 0),(8,.hp 0 0 4 0 0)]) (H0:=dH (0+1) (0+1) (0+1) aaf s.buf.length (s.buf.set v20.toNat row2).length (rwB (1+1) v20.toNat<|s.buf.set v20.toNat row2) (rbB (1+1) v20.toNat<|s.buf.set v20.toNat row2) at1 s.regs s.mem) (kw (by rw[<- e4,hbl];rfl) Z) ?_;refine jI<|oA (lh (.agg<|dC (0+1) (0+1) (0+1) aaf s.buf.length (s.buf.set v20.toNat row2).length at1 s.regs s.mem) yn Z Z Z)<|oV (EvA.st (cs:=dC (0+1) (0+1) (0+1) aaf s.buf.length (s.buf.set v20.toNat row2).length at1 s.regs s.mem) ⟨0,4,92,[dC (0+1) (0+1) (0+1) aaf s.buf.length (s.buf.set v20.toNat row2).length at1 s.regs s.mem]⟩ yn Z Z Z Z Z Z Z Z Z)<|jA<|jK ?_
 repeat first|refine pG ?_|refine pI ?_
 exact jQ (vs:=[.agg (dC (0+1) (0+1) (0+1) aaf s.buf.length (s.buf.set v20.toNat row2).length at1 s.regs s.mem)]) (.cons (.cell (.agg<|dC (0+1) (0+1) (0+1) aaf s.buf.length (s.buf.set v20.toNat row2).length at1 s.regs s.mem) yn Z Z Z Z Z Z) .nil)<|Fz.aggL<|.cons (Fz.own (g:=false) (ver:=0+1) (l:=at1) Z Z Z nofun qE)<|.cons (Fz.own (g:=false) (ver:=0+1) (l:=s.regs) Z Z Z nofun qE)<|.cons (Fz.own (g:=false) (ver:=0+1) (l:=s.mem) Z Z Z nofun qE)<|.cons (SJ (v:=1+1) (b:=v20.toNat) (ver:=s.buf.length) (l:=s.buf.set v20.toNat row2) Z hbe Z Z) .nil
abbrev tbB(gh:NG)(tbl:Tb):Option ABlk:=aag ⟨0,1,85,pO gh 1 tbl⟩
abbrev wkB(wv:Nat)(work:List ZZ)(junk:List<|List AV):Option ABlk:=aag ⟨wv,4,92,work.map ZZ.c++junk⟩
abbrev seB(states:Int)(outs:LL):Option ABlk:=aag ⟨0,2,53,[[I states,eL (cL cI) outs]]⟩
abbrev r0B:Option ABlk:=aag ⟨0,2,53,[[I (0:Int),.nil]]⟩
abbrev stB(s:ZZ):Option ABlk:=aag ⟨0,4,92,[ZZ.c s]⟩
def JOk(junk:List<|List AV):Prop:=∀r∈junk,∀a∈r,isF 9 a=aae
theorem Jr{wv:Nat}{work:List ZZ}{junk:List (List AV)}(h:JOk junk):∀k,wkB wv work junk=aag k->rQ k:=λk hk=>by
 obtain rfl:=osl hk;intro r hr a ha;rcases List.mem_append.1 hr with hr|hr
 .exact nA ZZ.isF r hr a ha
 exact h r hr a ha
theorem ja{k:ABlk}(h:rQ k):∀k',aag k=aag k'->rQ k':=λk' hk=>by
 obtain rfl:=osl hk;exact h
theorem O2:∀k,(aah:Option ABlk)=aag k->rQ k:=nofun
section
variable{Q:Exit->Env->AH->Prop}
theorem WF{work:List ZZ}{junk:List (List AV)}{i:Nat}(h:i<work.length):(work.map ZZ.c++junk)[i]?=aag (ZZ.c<|work.getD i aad):=by
 rw[gal (by simpa using h),afm,geq h,gdq,geq h]
 rfl
theorem WG(work:List ZZ)(junk:List<|List AV):(work.map ZZ.c++junk).take work.length=work.map ZZ.c:=by
 rw[List.take_append_of_le_length (by rw[llm];exact Nat.le_refl _),afr (by rw[llm];exact Nat.le_refl _)]
end
theorem UB(n i:Nat):(afk n ([]:List BA)).getD i []=[]:=by simp[List.getElem?_replicate];split <;> rfl
theorem Ht(p:List<|List ZW)(split:Bool){q}(h:rK p split=aag q):aF aaj 26 [eL (cL ZW.c) p,Bo split] (.agg<|cg.c q):=by
 refine aF.mkT func26 Z (by kernel_rfl) Z (by kernel_rfl) (e0:=ak [(1,Bo split),(0,eL (cL ZW.c) p)]) (ZR Z<|ZR Z ZQ) ?_;unfold rK at h;obtain⟨y,hsch,h'⟩:=ve h;obtain rfl:=osl h';clear h' h;unfold Yv at hsch;obtain⟨s,hs,h⟩:=ve hsch;obtain⟨k,hk,h⟩:=ve h;obtain⟨v,hv,h⟩:=ve h;obtain⟨hin,hy⟩:=gdD h;clear h hsch;refine jH ?_;refine jC ?_;refine oA (EvA.al YT Z Z) ?_;refine jA ?_;refine T.reserve<|T.reserve<|T.reserve<|T.reserve<|T.reserve<|T.reserveN 4096 ?_;have hT:=ZN 4096;have hrw:=SF 4096;have hl:(afk 4096 ([]:List BA)).length=4096:=by simp
 have hgd:=UB 4096;generalize afk 4096 (aah:Option ABlk)=K0 at hT ⊢;generalize afk 4096 ([]:List BA)=tb0 at hT hrw hl hin hy hgd;generalize (λi=>(aae,i+6,0):NG)=gh0 at hT hrw;refine T.clean (H0:=r0B::aah::aah::aah::aah::aah::K0) (e0:=ak [(4,.hp 0 0 2 0 0),(1,Bo split),(0,eL (cL ZW.c) p)]) Z (ZR Z<|ZR Z<|ZR Z ZQ) ?_;refine jH ?_;refine jC ?_;refine oA (EvA.msW 1 4096 (rows:=pO gh0 1 tb0) Y1 Z Z (by decide) Z Z Z hrw Z) ?_;refine oN (ZT.asg (hS aaf 1 0 1 4096) Z) ?_;refine jA ?_;refine jH ?_;refine jC ?_;refine oN (ZT.mv (eL (cL ZW.c) p) Z) ?_;refine oN (ZT.mv (Bo split) Z) ?_;refine oN (ZT.call Z Z Z (E8 p split hs) Z) ?_;refine oA (EvA.mkOR (c:=ZZ.c) 2 ([s]:List ZZ) [ZZ.c s] U6 Z Z Z ZZ.len ZZ.isF Z Z) ?_;refine oN (ZT.asg (hS aaf 2 0 4 ([s]:List ZZ).length) Z) ?_;refine jA ?_;refine jH ?_;refine jC ?_;refine oN (ZT.mv (hS aaf 1 0 1 4096) Z) ?_;refine oN (ZT.mv (hS aaf 2 0 4 ([s]:List ZZ).length) Z) ?_;refine oN (ZT.ixO (g:=false) U6 Z Z nofun<|by simp) ?_;refine oA (EvA.loadhp (.agg<|ZZ.c s) yn Z Z Z Z Z Z) ?_;refine oN (ZT.call Z Z Z (Av s hk) Z) ?_;obtain⟨gh1,K1,hM,hT1,_⟩:=SE hT k hv hin (by rw[hgd];rfl) r0B (wkB 0 [s] []) aah aah aah;rw[hl,hgd] at hM;rw[hgd] at hT1;refine oA (EvA.call Z Z Z hM) ?_;refine jA ?_;refine T.clean (H0:=r0B::tbB gh1 (tb0.set v.toNat<|[]++[k])::wkB 0 [s] []::aah::aah::aah::K1) (e0:=ak [(6,hS aaf 2 0 4 ([s]:List ZZ).length),(5,hS aaf 1 0 1 4096),(4,.hp 0 0 2 0 0),(1,Bo split),(0,eL (cL ZW.c) p)]) Z (ZR Z<|ZR Z<|ZR Z<|ZR Z<|ZR Z ZQ) ?_;refine jH ?_;refine jC ?_;refine oN (ZT.mkF (c:=cL cI) ([]:LL) [] wo Z Z Z qE qE Z) ?_;refine oN (ZT.build [I U,eL (cL cI) ([]:LL)] underlying53 YT ZF Z Z) ?_;refine oA (EvA.alR 3 YT Z Z Z) ?_;refine oV (EvA.st (cs:=[I U,eL (cL cI) ([]:LL)]) ⟨0,2,53,[[I U,eL (cL cI) ([]:LL)]]⟩ Yw Z Z Z Z Z Z Z Z Z) ?_;refine jA ?_;clear hM hT hs hk hv hin hrw hgd;have hl1:(tb0.set v.toNat<|[]++[k]).length=4096:=by simp[hl]
 clear hl;generalize tb0.set v.toNat ([]++[k])=tb1 at hT1 hy hl1 ⊢;refine jH ?_;refine jE ?_;refine jO (S:=Tb×List ZZ×Int×LL) (G:=NG×AH×Nat×List (List AV)) (Yu bX fP je (λs _ i=>jf p s split i) (λs _ i=>lL p s split i) (λg:Int=>g) (λs=>gd (ZU .i64<|(p.length:Int)+(s.buf.length:Int))<|aag<|(p.length:Int)+(s.buf.length:Int)) (jq p) dm jg 96)
  (λz g=>z.1.length=4096/\TabOk g.2.1 g.1 z.1/\JOk g.2.2.2)
  (λz g=>[(7,.hp 3 0 2 0 0),(6,hS aaf 2 g.2.2.1 4 z.2.1.length),(5,hS aaf 1 0 1 4096),(4,.hp 0 0 2 0 0),(1,Bo split),(0,eL (cL ZW.c) p)])
  (λz g=>r0B::tbB g.1 z.1::wkB g.2.2.1 z.2.1 g.2.2.2::seB z.2.2.1 z.2.2.2::aah::aah::g.2.1)
  (s0:=(tb1,[s],U,([]:LL))) (gh1,K1,0,[]) hy ⟨hl1,hT1,nofun⟩ (K5 rfl<|ZR rfl<|ZR rfl<|ZR rfl<|ZR rfl<|ZR rfl<|ZR rfl ZQ) ?_
 clear hy hT1 hl1;rintro⟨tbl,work,states,outs⟩ ⟨gh,K,wv,junk⟩ w1 hz ⟨hl,hT,hJ⟩;simp only at hl hT hJ;unfold Yu at hz;simp only at hz;refine jH ?_;refine jH ?_;refine jC ?_;refine oN (ZT.mv (hS aaf 2 wv 4 work.length) Z) ?_;refine oN (ZT.lenO (g:=false) U6 Z nofun) ?_;refine oN (ZT.igt Z Z) ?_;refine jA ?_;refine T.cond Z (λq0=>?_) λq0=>?_
 .replace hz:=Vw q0 hz;obtain⟨g1,hz⟩:=gdW hz;obtain⟨g2,hz⟩:=gdD hz;obtain⟨g3,hz⟩:=gdW hz;obtain⟨d,hd,hz⟩:=ve hz;obtain⟨GQ,ho,hz⟩:=ve hz;obtain⟨gg,hgg,hz⟩:=ve hz;obtain⟨y1,hy1,hz⟩:=ve hz;have hwl:((work.length:Int)-1).toNat=work.length-1:=by omega
  have hw0:0<work.length:=by omega
  have hlast:=WF (work:=work) (junk:=junk) (i:=((work.length:Int)-1).toNat) (by omega);generalize hsv:work.getD ((work.length:Int)-1).toNat aad=sv at hd ho hy1 hlast hgg;obtain⟨hg0,hgg⟩:=gdW hgg;obtain rfl:=osl hgg;refine jG ?_;refine jE ?_;refine jH ?_;refine jC ?_;refine oN (ZT.mv (hS aaf 2 wv 4 work.length) Z) ?_;refine oN (ZT.mv (hS aaf 2 wv 4 work.length) Z) ?_;refine oN (ZT.lenO (g:=false) U6 Z nofun) ?_;refine oN (ZT.sub Z Z g1) ?_;refine oN (ZT.ixO (g:=false) U6 Z Z nofun g2) ?_;refine oA (EvA.loadhp (.agg<|ZZ.c sv) yn Z Z Z Z hlast Z) ?_;refine oA (EvA.alR 4 RX Z Z Z) ?_;refine oV (EvA.st (cs:=ZZ.c sv) ⟨0,4,92,[ZZ.c sv]⟩ yn Z Z Z Z Z Z Z Z Z) ?_;refine jA ?_;refine jH ?_;refine jC ?_;refine oN (ZT.mv (hS aaf 2 wv 4 work.length) Z) ?_;refine oN (ZT.mv (hS aaf 2 wv 4 work.length) Z) ?_;refine oN (ZT.lenO (g:=false) U6 Z nofun) ?_;refine oN (ZT.sub Z Z g1) ?_;refine oN (ZT.slhs underlying94 yn (l:=(0:Int)) (h:=(work.length:Int)-1) Z .no (.yes Z) ⟨by omega,by omega,by omega⟩) ?_;refine oN (ZT.asg _ Z) ?_;refine jA ?_;have hcut:AV.hs 2 wv 4 (0+U.toNat) (((work.length:Int)-1).toNat-U.toNat)=hS aaf 2 wv 4 (work.take<|work.length-1).length:=by
   show AV.hs 2 wv 4 0 (((work.length:Int)-1).toNat-0)=AV.hs 2 wv 4 0 (work.take<|work.length-1).length;rw[hwl,List.length_take]
   congr 1
   omega
  have hsplit:work.map ZZ.c++junk=(work.take<|work.length-1).map ZZ.c++((work.drop<|work.length-1).map ZZ.c++junk):=by
   rw[<- List.append_assoc,<- List.map_append,List.take_append_drop]
  have hJ1:JOk ((work.drop<|work.length-1).map ZZ.c++junk):=λr hr a ha=>by
   rcases List.mem_append.1 hr with hr|hr
   .exact nA ZZ.isF r hr a ha
   exact hJ r hr a ha
  refine T.clean (H0:=r0B::tbB gh tbl::wkB wv (work.take<|work.length-1) ((work.drop<|work.length-1).map ZZ.c++junk)::seB states outs::stB sv::aah::K) (e0:=ak [(8,.hp 4 0 4 0 0),(7,.hp 3 0 2 0 0),(6,hS aaf 2 wv 4 (work.take<|work.length-1).length),(5,hS aaf 1 0 1 4096),(4,.hp 0 0 2 0 0),(1,Bo split),(0,eL (cL ZW.c) p)]) (by show _::_::aag (ABlk.mk _ _ _ _)::_=_::_::aag (ABlk.mk _ _ _ _)::_;rw[<- hsplit];rfl) (ZR Z<|ZR Z<|ZR hcut<|ZR Z<|ZR Z<|ZR Z<|ZR Z ZQ) ?_;generalize (work.drop<|work.length-1).map ZZ.c++junk=junk1 at hJ1 ⊢;generalize work.take (work.length-1)=wk1 at hy1 ⊢;clear hcut hsplit hlast hsv g2 g1 hw0 hwl hJ q0;refine jH ?_;refine jC ?_;refine oN (ZT.fahp underlying53 Z (by kernel_rfl) Z) ?_;refine oA (EvA.loadhp (I states) Z8 Z Z Z Z Z Z) ?_;refine oN (ZT.add Z Z g3) ?_;refine oN (ZT.fahp underlying53 Z (by kernel_rfl) Z) ?_;refine oV (EvA.st (cs:=[I (states+1)]) ⟨0,2,53,[[I (states+1),eL (cL cI) outs]]⟩ Z8 Z Z Z Z Z Z Z Z Z) ?_;refine jA ?_;refine T.joinF (G:=Unit) (λ_=>True) (λ_=>[(8,.hp 4 0 4 0 0),(7,.hp 3 0 2 0 0),(6,hS aaf 2 wv 4 wk1.length),(5,hS aaf 1 0 1 4096),(4,.hp 0 0 2 0 0),(1,Bo split),(0,eL (cL ZW.c) p)]) (λ_=>r0B::tbB gh tbl::wkB wv wk1 junk1::seB (states+1) GQ::stB sv::aah::K) (λ_ _=>?_) ?_
  .refine jH ?_;refine jC ?_;refine oN (ZT.asg (I U) Z) ?_;refine jA ?_;refine jE ?_;refine jO (S:=Int×Tb×List ZZ) (G:=NG×AH×Nat×List (List AV)) (Xw bX fP je (λs _ i=>jf p s split i) (λs _ i=>lL p s split i) (λg:Int=>g) 96 sv<|(p.length:Int)+(sv.buf.length:Int)) (λz g=>z.2.1.length=4096/\TabOk g.2.1 g.1 z.2.1/\JOk g.2.2.2) (λz g=>[(9,I z.1),(8,.hp 4 0 4 0 0),(7,.hp 3 0 2 0 0),(6,hS aaf 2 g.2.2.1 4 z.2.2.length),(5,hS aaf 1 0 1 4096),(4,.hp 0 0 2 0 0),(1,Bo split),(0,eL (cL ZW.c) p)]) (λz g=>r0B::tbB g.1 z.2.1::wkB g.2.2.1 z.2.2 g.2.2.2::seB (states+1) GQ::stB sv::aah::g.2.1) (s0:=(U,tbl,wk1)) (gh,K,wv,junk1) hy1 ⟨hl,hT,hJ1⟩ (K5 Z<|ZR Z<|ZR Z<|ZR Z<|ZR Z<|ZR Z<|ZR Z<|ZR Z<|ZR Z ZQ) ?_;clear hy1 hT hJ1 hl ho hd gh K wv junk1 junk g3;rintro⟨t,tb,wk⟩ ⟨gh,K,wv,junk⟩ w2 hs2 ⟨hl,hT,hJ⟩;simp only at hl hT hJ;unfold Xw at hs2;simp only at hs2;refine jH ?_;refine jH ?_;refine jC ?_;refine oN (ZT.mv (I t) Z) ?_;refine oN (ZT.mv (eL (cL ZW.c) p) Z) ?_;refine oN (ZT.lenL Ha Z) ?_;refine oN (ZT.fahp underlying92 Z (by kernel_rfl) Z) ?_;refine oA (EvA.loadhp (eL (cL cI) sv.buf) Jd Z Z Z Z Z Z) ?_;refine oN (ZT.lenL wo Z) ?_;refine oN (ZT.add Z Z hg0) ?_;refine oN (ZT.ilt Z Z) ?_;refine jA ?_;refine T.cond Z (λq1=>?_) λq1=>?_
   .replace hs2:=Vw q1 hs2;obtain⟨c,hc,hs2⟩:=ve hs2;refine jG ?_;refine T.joinF (G:=(NG×AH×Nat×List (List AV))×Tb×List ZZ) (λg=>g.2.1.length=4096/\TabOk g.1.2.1 g.1.1 g.2.1/\JOk g.1.2.2.2/\IntKind.i64.wrap (t+1)=t+1/\w2= .inl (t+1,g.2.1,g.2.2)) (λg=>[(9,I t),(8,.hp 4 0 4 0 0),(7,.hp 3 0 2 0 0),(6,hS aaf 2 g.1.2.2.1 4 g.2.2.length),(5,hS aaf 1 0 1 4096),(4,.hp 0 0 2 0 0),(1,Bo split),(0,eL (cL ZW.c) p)]) (λg=>r0B::tbB g.1.1 g.2.1::wkB g.1.2.2.1 g.2.2 g.1.2.2.2::seB (states+1) GQ::stB sv::aah::g.1.2.1) ?_ ?_
    .rintro⟨⟨gh,K,wv,junk⟩,tb,wk⟩ ⟨hl,hT,hJ,g3,rfl⟩;simp only at hl hT hJ;refine jC ?_;refine oN (ZT.mv (I t) Z) ?_;refine oN (ZT.add Z Z g3) ?_;refine oN (ZT.asg (I<|t+1) Z) ?_;refine jA ?_;exact⟨_,(gh,K,wv,junk),Z,⟨hl,hT,hJ⟩,K5 Z<|ZR Z<|ZR Z<|ZR Z<|ZR Z<|ZR Z<|ZR Z<|ZR Z<|ZR Z ZQ⟩
    refine jE ?_;refine jH ?_;refine jH ?_;refine jC ?_;refine oN (ZT.mv (eL (cL ZW.c) p) Z) ?_;refine oA (EvA.loadhp (.agg<|ZZ.c sv) yn Z Z Z Z Z Z) ?_;refine oN (ZT.mv (Bo split) Z) ?_;refine oN (ZT.mv (I t) Z) ?_;refine oN (ZT.call Z Z Z (Hp p sv split t hc) Z) ?_;refine oN (ZT.not Z) ?_;refine jA ?_;refine T.cond Z (λq2=>?_) λq2=>?_
    .obtain rfl:c=aaf:=by simpa using q2
     obtain⟨g3,hs2⟩:=gdW (show gd _ _=_ from hs2);obtain rfl:=osl hs2;refine jM ?_;exact⟨((gh,K,wv,junk),tb,wk),⟨hl,hT,hJ,g3,Z⟩,K5 Z<|ZR Z<|ZR Z<|ZR Z<|ZR Z<|ZR Z<|ZR Z<|ZR Z<|ZR Z ZQ⟩
    obtain rfl:c=aae:=by simpa using q2
    obtain⟨n,hn,hs2⟩:=ve (show Option.bind _ _=_ from hs2);obtain⟨k,hk,hs2⟩:=ve hs2;obtain⟨f,hf,hs2⟩:=ve hs2;refine jG ?_;refine jH ?_;refine jC ?_;refine oN (ZT.mv (eL (cL ZW.c) p) Z) ?_;refine oA (EvA.loadhp (.agg<|ZZ.c sv) yn Z Z Z Z Z Z) ?_;refine oN (ZT.mv (Bo split) Z) ?_;refine oN (ZT.mv (I t) Z) ?_;refine oN (ZT.call Z Z Z (Jq p sv split t hn) Z) ?_;refine oA (EvA.alR 5 RX Z Z Z) ?_;refine oV (EvA.st (cs:=ZZ.c n) ⟨0,4,92,[ZZ.c n]⟩ yn Z Z Z Z Z Z Z Z Z) ?_;refine jA ?_;refine jH ?_;refine jC ?_;refine oA (EvA.loadhp (.agg<|ZZ.c n) yn Z Z Z Z Z Z) ?_;refine oN (ZT.call Z Z Z (Av n hk) Z) ?_;refine oN (ZT.asg (St k) Z) ?_;refine jA ?_;refine jH ?_;refine jC ?_;refine oN (ZT.mv (hS aaf 1 0 1 4096) Z) ?_;refine oN (ZT.mv (St k) Z) ?_;refine oA (EvA.callT Z Z (Fa tb k hf) (.cons ((hT.at6 _ _ _ _ _ _).fz Z hl.symm qE)<|.cons (qD Z) .nil) Z) ?_;refine oN (ZT.not Z) ?_;refine jA ?_;refine T.cond Z (λq3=>?_) λq3=>?_
    .replace hs2:=Vw q3 hs2;obtain⟨v,hv,hs2⟩:=ve hs2;obtain⟨hin,hs2⟩:=gdD hs2;obtain⟨c1,hs2⟩:=gdL hs2;obtain⟨c2,hs2⟩:=gdL hs2;obtain⟨g3,hs2⟩:=gdW hs2;obtain rfl:=osl hs2;obtain⟨gh2,K2,hM,hT2,hK2⟩:=SE hT k hv hin c1 r0B (wkB wv wk junk) (seB (states+1) GQ) (stB sv)<|stB n;rw[hl] at hM;have hl2:(tb.set v.toNat<|tb.getD v.toNat []++[k]).length=4096:=by rw[afl];exact hl
     generalize tb.set v.toNat (tb.getD v.toNat []++[k])=tb2 at hM hT2 hl2 ⊢;refine jH ?_;refine jC ?_;refine oN (ZT.mv (hS aaf 1 0 1 4096) Z) ?_;refine oN (ZT.mv (St k) Z) ?_;refine oA (EvA.call Z Z Z hM) ?_;refine jA ?_;refine jC ?_;refine oN (ZT.mv (hS aaf 2 wv 4 wk.length) Z) ?_;refine oA (EvA.loadhp (.agg<|ZZ.c n) yn Z Z Z Z Z Z) ?_;refine oN (ZT.mkF (c:=ZZ.c) ([n]:List ZZ) [ZZ.c n] U6 Z Z Z ZZ.len ZZ.isF Z) ?_;refine oA (EvA.appJ (rows:=wk.map ZZ.c++junk) (rows':=(wk++[n]).map ZZ.c++[]) (n':=(wk++[n]).length) U6 (by kernel_rfl) Z Z (by simp) (bH.fz (l:=[n]) Z ZZ.len) c2 (by rw[WG];simp)<|by simp) ?_;refine oN (ZT.asg (hS aaf 2 (wv+1) 4 (wk++[n]).length) Z) ?_;refine TO.reid (e0:=ak [(9,I t),(8,.hp 4 0 4 0 0),(7,.hp 3 0 2 0 0),(6,hS aaf 2 (wv+1) 4 (wk++[n]).length),(5,hS aaf 1 0 1 4096),(4,.hp 0 0 2 0 0),(1,Bo split),(0,eL (cL ZW.c) p)]) (WB hT2 5 (.inr Z) (ja<|au Z) (Jr (wv:=wv+1) (work:=wk++[n]) (junk:=[]) nofun) (ja<|au Z) (ja<|au<|ZZ.isF _)<|ja<|au<|ZZ.isF _) (dz (.pF Z)<|dz (.hp ⟨by decide,by omega,Z⟩)<|dz (.hp ⟨by decide,by omega,Z⟩)<|dz (.hs ⟨by decide,by omega,Z⟩)<|dz (.hs ⟨by decide,by omega,Z⟩)<|dz (.hp ⟨by decide,by omega,Z⟩)<|dz (.pF Z)<|dz (.pF Z) Mr) ?_;refine jA ?_;exact⟨((gh2,K2,wv+1,[]),tb2,wk++[n]),⟨hl2,hT2,nofun,g3,Z⟩,K5 Z<|ZR Z<|ZR Z<|ZR Z<|ZR Z<|ZR Z<|ZR Z<|ZR Z<|ZR Z ZQ⟩
    replace hs2:=Tn q3 hs2;obtain⟨g3,hs2⟩:=gdW hs2;obtain rfl:=osl hs2;refine T.reid (e0:=ak [(9,I t),(8,.hp 4 0 4 0 0),(7,.hp 3 0 2 0 0),(6,hS aaf 2 wv 4 wk.length),(5,hS aaf 1 0 1 4096),(4,.hp 0 0 2 0 0),(1,Bo split),(0,eL (cL ZW.c) p)]) (WB hT 5 (.inr Z) (ja<|au Z) (Jr hJ) (ja<|au Z) (ja<|au<|ZZ.isF _)<|ja<|au<|ZZ.isF _) (dz (.pF Z)<|dz (.hp ⟨by decide,by omega,Z⟩)<|dz (.hp ⟨by decide,by omega,Z⟩)<|dz (.hs ⟨by decide,by omega,Z⟩)<|dz (.hs ⟨by decide,by omega,Z⟩)<|dz (.hp ⟨by decide,by omega,Z⟩)<|dz (.pF Z)<|dz (.pF Z) Mr) ?_;refine jG ?_;exact⟨((gh,K,wv,junk),tb,wk),⟨hl,hT,hJ,g3,Z⟩,K5 Z<|ZR Z<|ZR Z<|ZR Z<|ZR Z<|ZR Z<|ZR Z<|ZR Z<|ZR Z ZQ⟩
   replace hs2:=Tn q1 hs2;obtain rfl:=osl hs2;refine T.reid (e0:=ak [(7,.hp 3 0 2 0 0),(6,hS aaf 2 wv 4 wk.length),(5,hS aaf 1 0 1 4096),(4,.hp 0 0 2 0 0),(1,Bo split),(0,eL (cL ZW.c) p)]) (WB hT 4 (.inl Z) (ja<|au Z) (Jr hJ) (ja<|au Z) (ja<|au<|ZZ.isF _) O2) (dz (.hp ⟨by decide,by omega,Z⟩)<|dz (.hs ⟨by decide,by omega,Z⟩)<|dz (.hs ⟨by decide,by omega,Z⟩)<|dz (.hp ⟨by decide,by omega,Z⟩)<|dz (.pF Z)<|dz (.pF Z) Mr) ?_;refine jM ?_;refine⟨_,Z,λhe=>?_⟩;subst he;obtain rfl:=osl hz;exact⟨_,(gh,K,wv,junk),Z,⟨hl,hT,hJ⟩,K5 Z<|ZR Z<|ZR Z<|ZR Z<|ZR Z<|ZR Z<|ZR Z ZQ⟩
  refine jH ?_;refine jC ?_;refine oN (ZT.mv (eL (cL ZW.c) p) Z) ?_;refine oA (EvA.loadhp (.agg<|ZZ.c sv) yn Z Z Z Z Z Z) ?_;refine oN (ZT.call Z Z Z (GJ p sv hd) Z) ?_;refine jA ?_;refine T.cond Z (λqd=>?_) λqd=>?_
  .subst qd;replace ho:(Option.bind (dm sv) λo=>jg outs o)=aag GQ:=ho;obtain⟨o,ho1,ho⟩:=ve ho;refine jP (dG [dF,([3],aaf),([4],aaf),dF,dF,dF,([3],aae)]) (by kernel_rfl) (by kernel_rfl) ?_;refine fN Z (ZT.fahp underlying53 Z (by kernel_rfl) Z) ?_;refine fR [3] Z (λG hG=>EvA.loadhp (eL (cL cI) outs) Jd Z (hG.a0 Z) Z Z Z Z) ?_;refine fR [4] Z (λG hG=>EvA.loadhp (.agg<|ZZ.c sv) yn Z (hG.a0 Z) Z Z Z Z) ?_;refine fN Z (ZT.call Z Z Z (Cv sv ho1) Z) ?_;refine fN Z (ZT.call Z Z Z (Hr outs o ho) Z) ?_;refine fN Z (ZT.fahp underlying53 Z (by kernel_rfl) Z) ?_;refine fV 3 [] Z Z (λG hG=>EvA.st (cs:=[eL (cL cI) GQ]) ⟨0,2,53,[[I (states+1),eL (cL cI) GQ]]⟩ Jd Z Z (hG.a0 Z) Z Z Z Z Z Z) ?_;refine jR ?_;exact⟨(),trivial,K5 Z<|ZR Z<|ZR Z<|ZR Z<|ZR Z<|ZR Z<|ZR Z<|ZR Z ZQ⟩
  subst qd;obtain rfl:=osl ho;refine jG ?_;exact⟨(),trivial,K5 Z<|ZR Z<|ZR Z<|ZR Z<|ZR Z<|ZR Z<|ZR Z<|ZR Z ZQ⟩
 replace hz:=Tn q0 hz;obtain rfl:=osl hz;refine jM ?_;refine⟨_,Z,λhe=>?_⟩;subst he;refine jH ?_;refine jC ?_;refine oA (EvA.loadhp (.agg [I states,eL (cL cI) outs]) Yw Z Z Z Z Z Z) ?_;refine oV (EvA.st (cs:=[I states,eL (cL cI) outs]) ⟨0,2,53,[[I states,eL (cL cI) outs]]⟩ Yw Z Z Z Z Z Z Z Z Z) ?_;refine jA ?_;refine jK ?_
 repeat first|refine pG ?_|refine pI ?_
 exact jQ (vs:=[.agg [I states,eL (cL cI) outs]]) (.cons (.cell (.agg [I states,eL (cL cI) outs]) Yw Z Z Z Z Z Z) .nil)<|qD Z
instance KS(code:LI):Ct aaj (kX code) 6 [eL cY code] (λq=>.tup [eL (cL ZW.c) q.1,eL ah.c q.2.1,eL cI q.2.2]):=ctp func6 λq h=>by
 refine go h λ_ h=>?_;refine jB h λv1 cv1 h=>oA (EvA.call Z Z Z<|(EN code cv1).fresh Z (au Z) 0 Z)<|go h λ_ h=>?_;refine jB h λv2 cv2 h=>oA (EvA.call Z Z Z<|(ES (⟨v1.b,v1.p⟩:ae) 0 cv2).one 0 Z (.cons (.hp Z) .nil) (au Z) (au Z) Z)<|go h λ_ h=>?_;refine jB h λv3 cv3 h=>oA (EvA.call Z Z Z<|(EZ (⟨v2.1.b,v2.1.p⟩:ae) 0 cv3).one 0 Z (.cons (.hp Z) .nil) (au Z) (au Z) Z)<|jB h λv4 cv4 h=>oA (EvA.call Z Z Z<|(Ae (⟨v3.1.b,v3.1.p⟩:ae) v3.2 0 cv4).one 0 Z (.cons (.hp Z)<|.cons (.pF Z) .nil) (au Z) (au Z) Z) ?_;refine go h λ_ h=>?_;refine oC h (λ_=>Ht _ _) Z Z Z Z λv5 _ h=>(go h λ_ h=>?_);refine oA (EvA.mkO (c:=cI) ([]:LI) [] iq Z Z Z qE Z Z)<|go h λ_ h=>?_;refine jB h λv6 cv6 h=>oA (EvA.call Z Z Z<|(ax (⟨v4.1.b,v4.1.p⟩:ae) (v5.gH.length:Int) 0 cv6).one 0 Z (.cons (.hp Z)<|.cons (.pF Z) .nil) (au Z) (au Z) Z)<|go h λ_ h=>?_;refine kJ [7,6] h (λs9 gh k=>(9,hS aaf 1 gh 1 s9.2.2.length)::k) (λs9 gh=>[aag ⟨0,2,80,[[eL cY s9.1,I s9.2.1]]⟩,bE aaf gh 1 3 (s9.2.2.map cI)]) (λs9 u15 h=>?_) λs9 h=>?_
 .exact az h
 refine go h λ_ h=>?_;refine jB h λv10 cv10 h=>oA (EvA.call Z Z Z<|(ax (⟨v6.1.b,v6.1.p⟩:ae) (6:Int) 0 cv10).one 0 Z (.cons (.hp Z)<|.cons (.pF Z) .nil) (au Z) (au Z) Z)<|gy h λq11 h=>?_;refine go h λ_ h=>?_;refine jB h λv12 cv12 h=>oA (EvA.call Z Z Z<|(ax (⟨v10.1.b,v10.1.p⟩:ae) ((([]:LI)++(J v5.gH v6.2)).length:Int) 0 cv12).one 0 Z (.cons (.hp Z)<|.cons (.pF Z) .nil) (au Z) (au Z) Z)<|go h λ_ h=>?_;refine oN (ZT.mkF (c:=cI) ([V,U,(3:Int),(4:Int)]:LI) [[I V],[I U],[I (3:Int)],[I (4:Int)]] iq Z Z Z qE qE Z)<|jB h λv13 cv13 h=>oA (EvA.call Z Z Z<|(cW (⟨v12.1.b,v12.1.p⟩:ae) ([V,U,(3:Int),(4:Int)]:LI) 0 cv13).one 0 Z (.cons (.hp Z)<|.cons (.pF Z) .nil) (au Z) (au Z) Z) ?_;refine go h λf h=>?_;obtain⟨g14,_⟩:=f;refine oV (EvA.stO (g:=false) (l:=(([]:LI)++(J v5.gH v6.2))) (cs:=[I v13.2]) v13.2 Z8 Z Z Z nofun (aS Z g14) Z Z Z)<|go h λ_ h=>?_
 cases h
 exact⟨0+1,trivial,stW⟩
instance GM(a:LI)(b:LI):Ct aaj (l9 a b) 15 [eL cI a,eL cI b] Bo:=ctp func15 λq h=>by
 refine gx h λq1 h=>?_;refine go h λ_ h=>?_;refine qS [] h (λs2 k=>k) (λs2 h=>?_) λKs2 ws2 h ks2=>?_
 .exact az h
 refine go h λ_ h=>?_;refine qU [0,1] h (λs5 k=>(5,I s5)::k) λs5 ws5 h=>?_;exact az h
theorem GN(a:LI)(b:LI){q}(h:l9 a b=aag q):aF aaj 15 [eL cI a,eL cI b] (Bo q):=(GM a b).c h
instance Cw(list:LL)(o_:LI):Ct aaj (kg list o_) 13 [eL (cL cI) list,eL cI o_] Bo:=ctp func13 λq h=>by
 refine go h λ_ h=>?_;refine qS [] h (λs1 k=>k) (λs1 h=>?_) λKs1 ws1 h ks1=>?_
 .exact az h
 refine go h λ_ h=>?_;refine qU [0,1] h (λs4 k=>(5,I s4)::k) λs4 ws4 h=>?_;exact az h
theorem Cy(list:LL)(o_:LI){q}(h:kg list o_=aag q):aF aaj 13 [eL (cL cI) list,eL cI o_] (Bo q):=(Cw list o_).c h
instance Cz(code:LI):Ct aaj (gX code) 3 [eL cY code] Bo:=ctp func3 λq h=>by
 refine gx h λq1 h=>?_;refine gC h λv2 h=>?_;refine gC h λv3 h=>?_;refine gC h λv4 h=>?_;refine gs h λ_ h=>?_;refine oN (ZT.bne bt4 Z Z)<|go h λ_ h=>?_;refine qB [9,8,7,6,5,4,3] h 5 (λs5 k=>(43,Bo s5)::k) (λs5 q6 h js5=>?_) (λs5 q6 h js5=>?_) λs5 h=>?_
 .exact gj h js5
 .refine gA Z q6 (lh (.agg [eL cI v3.1.From,eL (cL cI) v3.1.Order]) O3 Z Z Z)<|gA Z q6 (lh (.agg [eL cI v4.1.From,eL (cL cI) v4.1.Order]) O3 Z Z Z)<|jB h λv7 cv7 h=>gN Z q6 (ZT.call Z Z Z (wV (⟨v3.1.From,v3.1.Order⟩:ZX) (⟨v4.1.From,v4.1.Order⟩:ZX) cv7) Z) ?_;exact gj h js5
 refine go h λ_ h=>?_;refine qB [9,8,7,6,5,4,3] h 5 (λs8 k=>(49,Bo s8)::k) (λs8 q9 h js8=>?_) (λs8 q9 h js8=>?_) λs8 h=>?_
 .exact gj h js8
 .refine go h λ_ h=>?_;refine jB h λv10 cv10 h=>gN Z q9 (ZT.call Z Z Z (rM v2.1 v2.2.2 cv10) Z) ?_;exact gj h js8
 refine go h λ_ h=>?_;refine qB [9,8,7,6,5,4,3] h 4 (λs11 k=>(54,Bo s11)::k) (λs11 q12 h js11=>?_) (λs11 q12 h js11=>?_) λs11 h=>?_
 .exact gj h js11
 .refine go h λ_ h=>?_;refine jB h λv13 cv13 h=>gN Z q12 (ZT.call Z Z Z (uU v2.2.1 cv13) Z) ?_;exact gj h js11
 refine gi h (λ_ q14 h=>?_) λ_ q14 h=>?_
 .refine go h λ_ h=>?_;refine oN (ZT.beq bt4 Z Z)<|go h λ_ h=>?_;refine qB [] h 4 (λs15 k=>(62,Bo s15)::k) (λs15 q16 h js15=>?_) (λs15 q16 h js15=>?_) λs15 h=>?_
  .refine gA Z q16 (lh (.agg [eL cI v3.1.From,eL (cL cI) v3.1.Order]) O3 Z Z Z)<|gA Z q16 (lh (.agg [eL cI v4.1.From,eL (cL cI) v4.1.Order]) O3 Z Z Z)<|jB h λv17 cv17 h=>gN Z q16 (ZT.call Z Z Z (wV (⟨v3.1.From,v3.1.Order⟩:ZX) (⟨v4.1.From,v4.1.Order⟩:ZX) cv17) Z) ?_;exact gj h js15
  .exact gj h js15
  exact gz h
 refine gC h λv18 h=>?_;refine gC h λv19 h=>?_;refine oC h (λ_=>Cy _ _) Z Z Z Z λv20 _ h=>oN (ZT.beq bt4 Z Z)<|go h λ_ h=>?_;refine qB [] h 11 (λs21 k=>(87,Bo s21)::k) (λs21 q22 h js21=>?_) (λs21 q22 h js21=>?_) λs21 h=>?_
 .refine go h λ_ h=>?_;refine qB [76] h 7 (λs23 k=>(86,Bo s23)::k) (λs23 q24 h js23=>?_) (λs23 q24 h js23=>?_) λs23 h=>?_
  .refine go h λ_ h=>?_;refine gN Z q22 (ZT.pickT Z q24 (Bo aae) Z) ?_
   cases h
   exact js23 _ _ Z9
  .refine go h λ_ h=>?_;refine qB [79,76] h 4 (λs25 k=>(85,Bo s25)::k) (λs25 q26 h js25=>?_) (λs25 q26 h js25=>?_) λs25 h=>?_
   .refine go h λ_ h=>?_;refine jB h λv27 cv27 h=>gN Z q26 (ZT.call Z Z Z (GN v18.1 v2.2.2 cv27) Z)<|gN Z q24 (ZT.pickT Z q26 (Bo v27) Z) ?_
    cases h
    exact js25 _ _ Z9
   .refine go h λ_ h=>?_;refine gN Z q24 (ZT.pickF Z q26 (Bo aaf) Z) ?_
    cases h
    exact js25 _ _ Z9
   refine gN Z q22 (ZT.pickF Z q24 (Bo s25) Z) ?_
   cases h
   exact js23 _ _ Z9
  exact gj h js21
 .exact gj h js21
 exact gz h
theorem CB(code:LI){q}(h:gX code=aag q):aF aaj 3 [eL cY code] (Bo q):=(Cz code).c h
open Go.ChangeShapes Go.WideShapes Go.ChangeAt Go.RowKit Go.WideElems
def SL(P:Program)(ns:List String):Bool:=ns.all λn=>((P.globalNamed n).bind (P.globals[·]?)).all λgl=>P.readableRec gl.type&&aai (gl.type<P.types.size)
theorem Ay{H:Type}{enc:TypeId×Value->H}{P:Program}(hl:laidOutB P=aae){W W':World}(hb:Below W.heap.size W W'){sp:Nat->Bool} :
  ∀{ns:List String}{gs:List (DataW H)}{ps:List MemPlace},SL P ns=aae->DataW.TrodVars enc P W (λ_=>aae) ns gs ps->(∀x∈ps,sp x.block=aae)->DataW.TrodVars enc P W' sp ns gs ps
 |[],[],_,_,h,_=>h
 |[],_::_,_,_,h,_=>h.elim
 |_::_,[],_,_,h,_=>h.elim
 |n::ns,d::ds,ps,hv,h,hsp=>by
  have hlt:=h.lt;obtain⟨g,t,cs,fuel,p,q,h1,h2,h3,h4,hs,e⟩:=h;simp only[SL,List.all_cons,bae] at hv;have ht:P.readableRec t=aae/\t<P.types.size:=by
   have:=hv.1;rw[h1] at this
   cases hg:P.globals[g]? with
   |none=>simp_all
   |some gl=>
    simp_all
  have hp:∀x∈p,x.block<W.heap.size:=λx hx=>hlt x (by simp_all);have h3':W'.var? P n=aag cs:=by
   unfold World.var? at h3 ⊢;rw[h1] at h3 ⊢;simp only[Option.bind_some] at h3 ⊢;have hg:g<W.heap.size:=by
    cases hh:W.heap[g]? with
    |none=>simp_all
    |some o=>grind
   rw[hb.block g hg];exact h3
  exact⟨g,t,cs,fuel,p,q,h1,h2,h3',DataW.trod_stays (kids_book hl ht.1) (book_sized ht.1) (λh=>by cases h) ⟨ht.2,book_self t⟩ h4 (λx hx=>hb.same (hp x hx)) (λx hx=>hsp x (by simp_all)),
   Ay hl hb (by simpa [SL] using hv.2) hs (λx hx=>hsp x (by simp_all)),e⟩
theorem SN{P:Program}{W:World}{n:String}{d:DataW Unit}{g t e:Nat}{ss:List BA}{l:List (String×DataW Unit)}(hm:laidMetH P l W)(hf:(l.filter λx=>x.1==n)=[(n,d)])(hn:d.handleName?.isNone=aae)
  (hg:P.globalNamed n=aag g) (ht:(P.globals[g]?).map (·.type)=aag t) (hu:P.underlying t=aag (.array ss.length e)) (hs:P.underlying e=aag .string) (hc:P.cellsOf e=1) (hd:d= .agg (ss.map λs=>.lit<|.string s.data.toList)) :
  ∀j,j<ss.length->W.cell? ⟨g,j,aah⟩=(ss[j]?).map .string:=by
 have h1:=hm.filter λx=>x.1==n;rw[hf,MakeChecks.laidMetH_plain _ _ _ (by simp[hn])] at h1;obtain⟨ps,⟨g',t',cs,fuel,p,q,hg',ht',hv,hr,_,_⟩,_,_⟩:=h1;obtain rfl:=osl<|hg.symm.trans hg';obtain rfl:=osl<|ht.symm.trans ht';obtain⟨xs,m,_,ex,hlen,hl,hel⟩:=DataW.trod_array hu hr;intro j hj;have hE:=hel j hj;rw[hc,Nat.mul_one,geq (by omega)] at hE;obtain⟨s,e1,e2,_⟩:=DataW.trod_string hs hE;have e3:xs.map (·.1)=ss.map λs=>.lit (.string s.data.toList):=by
  have:=(Prod.mk.inj ex).1;rw[hd] at this;exact(DataW.agg.inj this).symm
 have e4:(xs.map (·.1))[j]?=(ss.map λs=>(DataW.lit (.string s.data.toList):DataW Unit))[j]?:=by rw[e3]
 rw[afm,afm,geq (by omega:j<xs.length),geq hj,e2] at e4;simp only[Option.map_some,sie,DataW.lit.injEq,Lit.string.injEq] at e4;have e5:s=ss[j]:=by
  cases s with|mk a=>cases hb:ss[j] with|mk b=>rw[hb] at e4;exact congrArg _<|Array.toList_inj.1 e4
 rw[World.var?_cell hg hv j,geq hj,<- e5];have h0:((cs.toList.drop j).take 1)[0]?=aag (.string s):=by rw[e1];rfl
 grind
theorem WH{W:World}{g:Nat}{ss:List BA}(h:∀j,j<ss.length->W.cell? ⟨g,j,aah⟩=(ss[j]?).map .string)(h0:0<ss.length) :
  FRel W (λg=>g<W.heap.size) (.fp (ss.map λs=>.v<|.string s) 0) (.pointer<|aag ⟨g,0,aah⟩):=by
 have hlt:g<W.heap.size:=World.block_lt_of_cell? W ⟨g,0,aah⟩ (u:=.string ss[0]) (by simp_all);have hrow:∀(j:Nat)(c:AV),(ss.map λs=>AV.v<|.string s)[j]?=aag c->∃hj:j<ss.length,c= .v (.string ss[j]):=λj c hc=>by
  grind
 refine .fp (o:=0) (λj=>.string<|ss[j]?.getD ByteArray.empty) hlt hlt (λj c hc=>?_) (λj c hc=>rfl) λj c hc=>?_
 .grind
 obtain⟨hj,rfl⟩:=hrow j c hc;rw[geq hj];exact .v rfl
end
end Go.Proofs.YtoagamanbofngaaGreatDoor
