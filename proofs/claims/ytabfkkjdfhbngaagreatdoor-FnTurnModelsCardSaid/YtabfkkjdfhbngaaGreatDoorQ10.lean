/- Texts joined. No conditions. -/
import Derived.Test.YtabfkkjdfhbngaaGreatDoorQ9
namespace Go.Proofs.YtabfkkjdfhbngaaGreatDoor
noncomputable section
open _root_.Inhabited renaming default -> Nj
open _root_.Bool renaming true -> Nk
open _root_.Bool renaming false -> Nl
open _root_.Option renaming some -> Nn
open _root_.Go.Proofs.Tryz
open _root_.Go.Proofs.Tryz renaming prog -> Nr
set_option maxHeartbeats 4000000
open Go.RowKit
set_option maxRecDepth 100000
attribute [local irreducible] T TO TF TG TX M0 EvA
theorem uF (s:BA) (sep:BA) (sepSave:Int) (n:Int) {q} (h:iP s sep sepSave n=Nn q):aD Nr 146 [St s,St sep,I sepSave,I n] (eL cS q):=by
 refine pM func146 Z (by kernel_rfl) Z<|go h λ_ h=>?_;refine Ng h (λ_ q1 h=>?_) λ_ q1 h=>?_
 ·refine go h λ_ h=>?_;obtain rfl:=M4 h
  repeat (first|refine lD ?_|refine lF ?_)
  exact jQ (vs:=[.nil]) (.cons (.tmp Z) .nil) .nil0
 refine go h λ_ h=>?_;refine Ng h (λ_ q2 h=>?_) λ_ q2 h=>?_
 ·cases h
 refine go h λ_ h=>?_;refine T.jU h (λs3=>[(3,I s3),(0,St s),(1,St sep),(2,I sepSave)]) (λs3=>[]) (λs3 h=>?_) λs3 h=>?_
 ·refine go h λ_ h=>?_;refine jD h λg8 h=>oA (EvA.mkN (c:=cS) (Nj:BA) Kl Z Z g8 Z Z Z)<|go h λ_ h=>?_;refine tJ h (λs10 gh=>[(10,I s10.2.1),(9,hS Nl 0 gh 1 s10.1.length),(0,St s10.2.2)]) (λs10 gh=>[bE Nl gh 1 9 (s10.1.map cS)]) (λs10 u26 h=>?_) λs10 h=>?_
  ·refine go h λf h=>?_;obtain ⟨g27,_⟩:=f;refine oV (EvA.stO (g:=false) (l:=s10.1) (cs:=[St s10.2.2]) s10.2.2 ty9 Z Z Z nofun (bH Z g27) Z Z Z)<|jA<|jI<|oN mv<|oN mv<|jW h λg28 h=>oN (M0.add Z Z g28)<|TO.cut (e0:=ak [(64,I<|s10.2.1+(1:Int)),(62,eL cS<|s10.1.set s10.2.1.toNat s10.2.2)]) (H0:=[]) (qZ Z .nil<|aj (.fz<|qC Z)<|aj (.fz<|Fz.own (g:=false) (ver:=u26) (l:=(s10.1.set s10.2.1.toNat s10.2.2)) Z Z (by simp) nofun qD) bg)<|jD h λg29 h=>oN (M0.slL Kl Z .no (.yes Z) g29 qD) ?_;exact gz h
  refine go h λ_ h=>?_;refine tT h 0 (λs14 gh=>[(10,I s14.2.1),(3,I<|(if ((s.size:Int)+V)<s3 then ((s.size:Int)+V) else s3)-V),(9,hS Nl 0 gh 1 s14.1.length),(0,St s14.2.2),(1,St sep),(2,I sepSave)]) (λs14 gh=>[bE Nl gh 1 9 (s14.1.map cS)]) λs14 u16 ws14 h=>?_;refine Ng h (λ_ q17 h=>?_) λ_ q17 h=>?_
  ·refine go h λ_ h=>?_;refine oC h (λ_=>rE _ _) Z Z Z Z λv18 _ h=>(go h λ_ h=>?_);refine Ng h (λ_ q19 h=>?_) λ_ q19 h=>?_
   ·refine jM<|lX h λh=>?_
    cases h
    exact ⟨u16,trivial,Nh⟩
   refine go h λf h=>?_;obtain ⟨g22,_⟩:=f;refine oV (EvA.stO (g:=false) (l:=s14.1) (cs:=[St (s14.2.2.extract U.toNat (v18+sepSave).toNat)]) (s14.2.2.extract U.toNat (v18+sepSave).toNat) ty9 Z Z Z nofun (bH Z g22) Z Z Z)<|go h λ_ h=>?_;obtain rfl:=M4 h;exact ⟨((s14.1.set s14.2.1.toNat<|s14.2.2.extract (0:Int).toNat (v18+sepSave).toNat),(s14.2.1+(1:Int)),(s14.2.2.extract (v18+(sep.size:Int)).toNat (s14.2.2.size:Int).toNat)),u16,Z,trivial,zO Z<|MZ Z<|MZ Z<|MZ (congrArg (hS Nl 0 u16 1) (by simp:s14.1.length=(s14.1.set s14.2.1.toNat<|s14.2.2.extract (0:Int).toNat (v18+sepSave).toNat).length))<|MZ Z<|MZ Z<|MZ Z wkN⟩
  refine jM<|lX h λh=>?_
  cases h
  exact ⟨u16,trivial,Nh⟩
 refine gi h (λ_ q4 h=>?_) λ_ q4 h=>?_
 ·refine go h λ_ h=>?_;refine oC h (λ_=>xw _ _) Z Z Z Z λv5 _ h=>(go h λ_ h=>?_)
  cases h
  exact ⟨(),trivial,Nh⟩
 refine go h λ_ h=>?_
 cases h
 exact ⟨(),trivial,Nh⟩
theorem xx (s:BA) (sep:BA) {q} (h:lN s sep=Nn q):aD Nr 85 [St s,St sep] (eL cS q):=by
 refine pM func85 Z (by kernel_rfl) Z<|go h λ_ h=>?_;refine oC h (λ_=>uF _ _ _ _) Z Z Z Z λv1 _ h=>?_;exact gz h
theorem o7 (s:BA) (sep:BA) {q} (h:cN s sep=Nn q):aD Nr 147 [St s,St sep] (.tup [St q.1,St q.2.1,Bo q.2.2]):=by
 refine pM func147 Z (by kernel_rfl) Z<|go h λ_ h=>?_;refine gs h λ_ h=>?_;refine oC h (λ_=>gX _ _) Z Z Z Z λv1 _ h=>?_;refine gi h (λ_ q2 h=>?_) λ_ q2 h=>?_
 ·refine jH<|T.drawP (by kernel_rfl) (by kernel_rfl) ?_;exact gf h
 exact gf h
theorem zC (s:BA) (sep:BA) {q} (h:oK s sep=Nn q):aD Nr 86 [St s,St sep] (.tup [St q.1,St q.2.1,Bo q.2.2]):=by
 refine pM func86 Z (by kernel_rfl) Z<|go h λ_ h=>?_;refine oC h (λ_=>o7 _ _) Z Z Z Z λv1 _ h=>?_;exact gf h
theorem gY (s:List BA) (v:BA) {q} (h:aU s v=Nn q):aD Nr 87 [eL cS s,St v] (I q):=by
 refine pM func87 Z (by kernel_rfl) Z<|go h λ_ h=>?_;obtain ⟨Ks1,es1,ws1,h,ks1⟩:=Bq h;refine T.join (S:=Unit) (G:=Unit) (λs1=>Ks1 s1=Nn q) (λs1 gh=>True) (λs1 gh=>[]) (λs1 gh=>[]) (λs1 gh h hg=>?_) ?_
 ·clear ks1;subst es1;exact gz h
 refine go h λ_ h=>?_;refine tU h (λs4=>[(8,I s4),(7,I (s.length:Int)),(0,eL cS s),(1,St v)]) (λs4=>[]) λs4 ws4 h=>?_;refine go h λ_ h=>?_;refine jH ?_;refine jN Z h (λq6 h=>?_) λq6 h=>?_
 ·refine go h λ_ h=>?_;refine Ng h (λ_ q8 h=>?_) λ_ q8 h=>?_
  ·refine go h λ_ h=>?_;refine lX h λh=>?_;obtain rfl:=M4 h;replace h:=congrArg Nn (show _=_ from ks1);exact gz h
  refine go h λ_ h=>?_;exact lE h Nh
 refine jM<|lX h λh=>?_
 cases h
 exact ⟨(),(),ks1,trivial,Nh⟩
theorem cn (r_:aa) (c:Int) (aI:Nat) {q} (h:bv r_ c=some q):f8 Tryz.prog 212 [.hp 0 aI 2 0 0,Y c] [some ⟨aI,2,174,[(aa.c r_)]⟩] (Bo q.2) [some ⟨aI,2,174,[(aa.c q.1)]⟩]:=by
 refine aM Tryz.func212 Z (by kernel_rfl) Z<|go h λ_ h=>?_;refine gs h λ_ h=>?_;refine TO.jB h 6 (λs1=>[(15,Bo s1),(0,.hp 0 aI 2 0 0),(1,Y c)]) (λs1=>[some ⟨aI,2,174,[(aa.c r_)]⟩]) (λs1 q2 h js1=>?_) (λs1 q2 h js1=>?_) λs1 h=>?_
 ·exact gj h js1
 ·refine go h λ_ h=>?_;refine gA Z q2 (lh (St r_.rest) ty9 Z Z Z) ?_;exact gj h js1
 refine go h λ_ h=>?_;refine TO.jB h 8 (λs3=>[(24,Bo s3),(0,.hp 0 aI 2 0 0)]) (λs3=>[some ⟨aI,2,174,[(aa.c r_)]⟩]) (λs3 q4 h js3=>?_) (λs3 q4 h js3=>?_) λs3 h=>?_
 ·exact gj h js3
 ·refine go h λ_ h=>?_;refine gA Z q4 (lh (St r_.rest) ty9 Z Z Z) ?_;exact gj h js3
 refine gi h (λ_ q6 h=>?_) λ_ q6 h=>?_
 ·refine go h λ_ h=>?_;obtain rfl:=M4 h
  repeat (first|refine lD ?_|refine lF ?_)
  exact ⟨ak [(4,Bo false)],[some ⟨aI,2,174,[(aa.c (⟨r_.rest,r_.failed⟩:aa))]⟩],Nh,jQ (vs:=[Bo false]) (.cons (.tmp Z) .nil) ⟨Z,Z⟩⟩
 refine go h λ_ h=>?_;obtain rfl:=M4 h
 repeat (first|refine lD ?_|refine lF ?_)
 exact ⟨ak [(4,Bo true)],[some ⟨aI,2,174,[(aa.c (⟨(r_.rest.extract V.toNat (r_.rest.size:Int).toNat),r_.failed⟩:aa))]⟩],Nh,jQ (vs:=[Bo true]) (.cons (.tmp Z) .nil) ⟨Z,Z⟩⟩
theorem sx (r_:aa) (aI:Nat) {q} (h:fq r_=some q):f8 Tryz.prog 258 [.hp 0 aI 2 0 0] [some ⟨aI,2,174,[(aa.c r_)]⟩] (St q.2) [some ⟨aI,2,174,[(aa.c q.1)]⟩]:=by
 refine aM Tryz.func258 Z (by kernel_rfl) Z<|go h λ_ h=>?_;refine T.jU h (λs1=>[(3,I s1),(0,.hp 0 aI 2 0 0)]) (λs1=>[some ⟨aI,2,174,[(aa.c r_)]⟩]) (λs1 h=>?_) λs1 h=>?_
 ·refine go h λ_ h=>?_;obtain rfl:=M4 h
  repeat (first|refine lD ?_|refine lF ?_)
  exact ⟨ak [(2,St<|r_.rest.extract U.toNat s1.toNat)],[some ⟨aI,2,174,[(aa.c (⟨(r_.rest.extract s1.toNat (r_.rest.size:Int).toNat),r_.failed⟩:aa))]⟩],Nh,jQ (vs:=[St (r_.rest.extract U.toNat s1.toNat)]) (.cons (.tmp Z) .nil) ⟨Z,Z⟩⟩
 refine go h λ_ h=>?_;refine tU h (λs4=>[(3,I s4),(0,.hp 0 aI 2 0 0)]) (λs4=>[some ⟨aI,2,174,[(aa.c r_)]⟩]) λs4 ws4 h=>?_;refine gs h λ_ h=>?_;refine TO.jB h 8 (λs6=>[(20,Bo s6),(3,I s4),(0,.hp 0 aI 2 0 0)]) (λs6=>[some ⟨aI,2,174,[(aa.c r_)]⟩]) (λs6 q7 h js6=>?_) (λs6 q7 h js6=>?_) λs6 h=>?_
 ·refine go h λ_ h=>?_;refine gA Z q7 (lh (St r_.rest) ty9 Z Z Z) ?_;exact gj h js6
 ·exact gj h js6
 refine go h λ_ h=>?_;refine TO.jB h 8 (λs9=>[(29,Bo s9),(3,I s4),(0,.hp 0 aI 2 0 0)]) (λs9=>[some ⟨aI,2,174,[(aa.c r_)]⟩]) (λs9 q10 h js9=>?_) (λs9 q10 h js9=>?_) λs9 h=>?_
 ·refine go h λ_ h=>?_;refine gA Z q10 (lh (St r_.rest) ty9 Z Z Z) ?_;exact gj h js9
 ·exact gj h js9
 refine gi h (λ_ q12 h=>?_) λ_ q12 h=>?_
 ·refine go h λ_ h=>?_;exact lE h Nh
 refine jM<|lX h λh=>?_
 cases h
 exact ⟨(),trivial,Nh⟩
theorem nL (dH:aa->Int->Option (aa×ae)) (ih148:∀ (r_:aa) (level:Int) (aI:Nat) {q},dH r_ level=some q->f8 Tryz.prog 148 [.hp 0 aI 2 0 0,I level] [some ⟨aI,2,174,[(aa.c r_)]⟩] (.agg<|ae.c q.2) [some ⟨aI,2,174,[(aa.c q.1)]⟩]):∀ (nf:Nat) (r_:aa) (aI:Nat) {q:aa×ae} (h:bB dH nf r_=some q),f8 Tryz.prog 210 [.hp 0 aI 2 0 0] [some ⟨aI,2,174,[(aa.c r_)]⟩] (.agg<|ae.c q.2) [some ⟨aI,2,174,[(aa.c q.1)]⟩]:=by
 intro nf
 induction nf with
 | zero=>intros;rename_i h;cases h
 | succ nf ih=>
  intro r_ aI q h;replace h:bR dH (bB dH nf) r_=some q:=h;refine aM Tryz.func210 Z (by kernel_rfl) Z<|go h λ_ h=>?_;refine gs h λ_ h=>?_;refine jB h λv1 cv1 h=>oA (EvA.call Z Z Z<|(cn (⟨r_.rest,r_.failed⟩:aa) (40:Int) aI cv1).one 0 Z (.cons (.hp Z)<|.cons (.pF Z) .nil) (au Z) (au Z) Z) ?_;refine gi h (λ_ q2 h=>?_) λ_ q2 h=>?_
  ·refine go h λ_ h=>?_;refine jB h λv3 cv3 h=>oA (EvA.call Z Z Z<|(ih148 (⟨v1.1.rest,v1.1.failed⟩:aa) (3:Int) aI cv3).one 0 Z (.cons (.hp Z)<|.cons (.pF Z) .nil) (au Z) (au Z) Z)<|go h λ_ h=>?_;refine T.jU h (λs4=>[(3,.hp 2 0 3 0 0),(2,.hp 1 0 3 0 0)]) (λs4=>[some ⟨aI,2,174,[[St s4.1,Bo s4.2]]⟩,some ⟨0,3,116,[[I U,St (⟨#[]⟩:BA),.nil]]⟩,some ⟨0,3,116,[(ae.c v3.2)]⟩]) (λs4 h=>?_) λs4 h=>?_
   ·refine go h λ_ h=>?_;obtain rfl:=M4 h
    repeat (first|refine lD ?_|refine lF ?_)
    exact ⟨ak [(2,.fp (ae.c (⟨v3.2.Op,v3.2.Name,v3.2.Kids⟩:ae)) 0)],[some ⟨aI,2,174,[(aa.c (⟨s4.1,s4.2⟩:aa))]⟩],qZ Z (.cons (.row<|.cons (.fz<|qC Z)<|.cons (.fz<|qC Z) .nil) .nil)<|aj (.fz<|Fz.fpL (ver:=0) (s:=3) (ty:=116) (rows:=[[I v3.2.Op,St v3.2.Name,eL ZTE.c v3.2.Kids]]) Z Z Z<|.cons (qC Z)<|.cons (qC Z)<|.cons (qC Z) .nil) bg,jQ (vs:=[.agg (ae.c (⟨v3.2.Op,v3.2.Name,v3.2.Kids⟩:ae))]) (.cons (.cellF (.agg<|ae.c (⟨v3.2.Op,v3.2.Name,v3.2.Kids⟩:ae)) Cm Z Z) .nil) ⟨Z,Z⟩⟩
   refine go h λ_ h=>?_;refine jB h λv5 cv5 h=>oA (EvA.call Z Z Z<|(cn (⟨v3.1.rest,v3.1.failed⟩:aa) (41:Int) aI cv5).one 0 Z (.cons (.hp Z)<|.cons (.pF Z) .nil) (au Z) (au Z) Z) ?_;refine gi h (λ_ q6 h=>?_) λ_ q6 h=>?_
   ·refine go h λ_ h=>?_
    cases h
    exact ⟨(),trivial,Nh⟩
   refine go h λ_ h=>?_
   cases h
   exact ⟨(),trivial,Nh⟩
  refine go h λ_ h=>?_;refine jB h λv7 cv7 h=>oA (EvA.call Z Z Z<|(cn (⟨v1.1.rest,v1.1.failed⟩:aa) (126:Int) aI cv7).one 0 Z (.cons (.hp Z)<|.cons (.pF Z) .nil) (au Z) (au Z) Z) ?_;refine gi h (λ_ q8 h=>?_) λ_ q8 h=>?_
  ·refine go h λ_ h=>?_;refine jB h λv9 cv9 h=>oA (EvA.call Z Z Z<|(ih (⟨v7.1.rest,v7.1.failed⟩:aa) aI cv9).one 0 Z (.cons (.hp Z) .nil) (au Z) (au Z) Z)<|oN (M0.res (M0.mkF (c:=ae.c) ([v9.2]:List ae) [(ae.c v9.2)] Bj Z Z Z qD ae.isF Z) (r':=eL ZTE.c ([v9.2.inn]:List ZTE)) λ_ _ hr=>CY ae.inn_c hr) ?_;refine go h λ_ h=>?_;obtain rfl:=M4 h
   repeat (first|refine lD ?_|refine lF ?_)
   exact ⟨ak [(2,.fp (ae.c (⟨(6:Int),(⟨#[]⟩:BA),([v9.2.inn]:List ZTE)⟩:ae)) 0)],[some ⟨aI,2,174,[(aa.c (⟨v9.1.rest,v9.1.failed⟩:aa))]⟩],qZ Z (.cons (.row<|.cons (.fz<|qC Z)<|.cons (.fz<|qC Z) .nil) .nil)<|aj (.fz<|Fz.fpL (ver:=0) (s:=3) (ty:=116) (rows:=[[I (6:Int),St (⟨#[]⟩:BA),eL ZTE.c ([v9.2.inn]:List ZTE)]]) Z Z Z<|.cons (qC Z)<|.cons (qC Z)<|.cons (qC Z) .nil) bg,jQ (vs:=[.agg (ae.c (⟨(6:Int),(⟨#[]⟩:BA),([v9.2.inn]:List ZTE)⟩:ae))]) (.cons (.cellF (.agg<|ae.c (⟨(6:Int),(⟨#[]⟩:BA),([v9.2.inn]:List ZTE)⟩:ae)) Cm Z Z) .nil) ⟨Z,Z⟩⟩
  refine go h λ_ h=>?_;refine jB h λv10 cv10 h=>oA (EvA.call Z Z Z<|(cn (⟨v7.1.rest,v7.1.failed⟩:aa) (43:Int) aI cv10).one 0 Z (.cons (.hp Z)<|.cons (.pF Z) .nil) (au Z) (au Z) Z) ?_;refine gi h (λ_ q11 h=>?_) λ_ q11 h=>?_
  ·refine go h λ_ h=>?_;refine jB h λv12 cv12 h=>oA (EvA.call Z Z Z<|(ih (⟨v10.1.rest,v10.1.failed⟩:aa) aI cv12).one 0 Z (.cons (.hp Z) .nil) (au Z) (au Z) Z)<|oN (M0.res (M0.mkF (c:=ae.c) ([v12.2]:List ae) [(ae.c v12.2)] Bj Z Z Z qD ae.isF Z) (r':=eL ZTE.c ([v12.2.inn]:List ZTE)) λ_ _ hr=>CY ae.inn_c hr) ?_;refine go h λ_ h=>?_;obtain rfl:=M4 h
   repeat (first|refine lD ?_|refine lF ?_)
   exact ⟨ak [(2,.fp (ae.c (⟨(7:Int),(⟨#[]⟩:BA),([v12.2.inn]:List ZTE)⟩:ae)) 0)],[some ⟨aI,2,174,[(aa.c (⟨v12.1.rest,v12.1.failed⟩:aa))]⟩],qZ Z (.cons (.row<|.cons (.fz<|qC Z)<|.cons (.fz<|qC Z) .nil) .nil)<|aj (.fz<|Fz.fpL (ver:=0) (s:=3) (ty:=116) (rows:=[[I (7:Int),St (⟨#[]⟩:BA),eL ZTE.c ([v12.2.inn]:List ZTE)]]) Z Z Z<|.cons (qC Z)<|.cons (qC Z)<|.cons (qC Z) .nil) bg,jQ (vs:=[.agg (ae.c (⟨(7:Int),(⟨#[]⟩:BA),([v12.2.inn]:List ZTE)⟩:ae))]) (.cons (.cellF (.agg<|ae.c (⟨(7:Int),(⟨#[]⟩:BA),([v12.2.inn]:List ZTE)⟩:ae)) Cm Z Z) .nil) ⟨Z,Z⟩⟩
  refine go h λ_ h=>?_;refine jB h λv13 cv13 h=>oA (EvA.call Z Z Z<|(sx (⟨v10.1.rest,v10.1.failed⟩:aa) aI cv13).one 0 Z (.cons (.hp Z) .nil) (au Z) (au Z) Z)<|go h λ_ h=>?_;refine T.jU h (λs14=>[(4,St v13.2),(2,.hp 1 0 3 0 0)]) (λs14=>[some ⟨aI,2,174,[[St v13.1.rest,Bo s14]]⟩,some ⟨0,3,116,[[I U,St (⟨#[]⟩:BA),.nil]]⟩]) (λs14 h=>?_) λs14 h=>?_
  ·refine go h λ_ h=>?_;obtain rfl:=M4 h
   repeat (first|refine lD ?_|refine lF ?_)
   exact ⟨ak [(2,.fp (ae.c (⟨V,v13.2,([]:List ZTE)⟩:ae)) 0)],[some ⟨aI,2,174,[(aa.c (⟨v13.1.rest,s14⟩:aa))]⟩],qZ Z (.cons (.row<|.cons (.fz<|qC Z)<|.cons (.fz<|qC Z) .nil) .nil)<|aj (.fz<|Fz.fpL (ver:=0) (s:=3) (ty:=116) (rows:=[[I V,St v13.2,.nil]]) Z Z Z<|.cons (qC Z)<|.cons (qC Z)<|.cons (.nil0) .nil) bg,jQ (vs:=[.agg (ae.c (⟨V,v13.2,([]:List ZTE)⟩:ae))]) (.cons (.cellF (.agg<|ae.c (⟨V,v13.2,([]:List ZTE)⟩:ae)) Cm Z Z) .nil) ⟨Z,Z⟩⟩
  refine gi h (λ_ q15 h=>?_) λ_ q15 h=>?_
  ·refine go h λ_ h=>?_
   cases h
   exact ⟨(),trivial,Nh⟩
  refine go h λ_ h=>?_
  cases h
  exact ⟨(),trivial,Nh⟩
theorem oz (dH:aa->Int->Option (aa×ae)) (ih148:∀ (r_:aa) (level:Int) (aI:Nat) {q},dH r_ level=some q->f8 Tryz.prog 148 [.hp 0 aI 2 0 0,I level] [some ⟨aI,2,174,[(aa.c r_)]⟩] (.agg<|ae.c q.2) [some ⟨aI,2,174,[(aa.c q.1)]⟩]) (r_:aa) (aI:Nat) {q:aa×ae} (h:dX dH r_=some q):f8 Tryz.prog 210 [.hp 0 aI 2 0 0] [some ⟨aI,2,174,[(aa.c r_)]⟩] (.agg<|ae.c q.2) [some ⟨aI,2,174,[(aa.c q.1)]⟩]:=by
 obtain ⟨nf,h⟩:=tz h;exact nL dH ih148 nf r_ aI h
theorem m6 (op:Int) {q} (h:dz op=some q):aD Tryz.prog 211 [I op] (.tup [I q.1,St q.2.1,I q.2.2]):=by
 refine pM Tryz.func211 Z (by kernel_rfl) Z<|go h λ_ h=>?_;refine Ng h (λ_ q1 h=>?_) λ_ q1 h=>?_
 ·exact gf h
 refine gi h (λ_ q2 h=>?_) λ_ q2 h=>?_
 ·exact gf h
 refine gi h (λ_ q3 h=>?_) λ_ q3 h=>?_
 ·exact gf h
 refine gi h (λ_ q4 h=>?_) λ_ q4 h=>?_
 ·exact gf h
 refine gi h (λ_ q5 h=>?_) λ_ q5 h=>?_
 ·exact gf h
 refine gi h (λ_ q6 h=>?_) λ_ q6 h=>?_
 ·exact gf h
 refine gi h (λ_ q7 h=>?_) λ_ q7 h=>?_
 ·exact gf h
 exact gf h
theorem qR:∀ (nf:Nat) (r_:aa) (level:Int) (aI:Nat) {q} (h:bF nf r_ level=Nn q),f8 Nr 148 [.hp 0 aI 2 0 0,I level] [Nn ⟨aI,2,174,[(aa.c r_)]⟩] (.agg<|ae.c q.2) [Nn ⟨aI,2,174,[(aa.c q.1)]⟩]:=by
 intro nf
 induction nf with
 | zero=>intros;rename_i h;cases h
 | succ nf ih=>
  intro r_ level aI q h;replace h:dE (bF nf) r_ level=Nn q:=h;refine aM func148 Z (by kernel_rfl) Z<|go h λ_ h=>?_;refine Ng h (λ_ q1 h=>?_) λ_ q1 h=>?_
  ·refine go h λ_ h=>?_;refine jB h λv2 cv2 h=>oA (EvA.call Z Z Z<|(oz (bF nf) ih (⟨r_.rest,r_.failed⟩:aa) aI cv2).one 0 Z (.cons (.hp Z) .nil) (au Z) (au Z) Z)<|go h λ_ h=>?_;obtain rfl:=M4 h
   repeat (first|refine lD ?_|refine lF ?_)
   exact ⟨ak [(4,.fp (ae.c (⟨v2.2.Op,v2.2.Name,v2.2.Kids⟩:ae)) 0)],[Nn ⟨aI,2,174,[(aa.c (⟨v2.1.rest,v2.1.failed⟩:aa))]⟩],Nh,jQ (vs:=[.agg (ae.c (⟨v2.2.Op,v2.2.Name,v2.2.Kids⟩:ae))]) (.cons (.cellF (.agg<|ae.c (⟨v2.2.Op,v2.2.Name,v2.2.Kids⟩:ae)) Cm Z Z) .nil) ⟨Z,Z⟩⟩
  refine go h λf h=>?_;obtain ⟨g3,_⟩:=f;refine jB h λv4 cv4 h=>oA (EvA.call Z Z Z<|(ih (⟨r_.rest,r_.failed⟩:aa) (level-V) aI cv4).one 0 Z (.cons (.hp Z)<|.cons (.pF Z) .nil) (au Z) (au Z) Z)<|go h λ_ h=>?_;refine tU h (λs7=>[(5,.hp 2 0 3 0 0),(4,.hp 1 0 3 0 0),(0,.hp 0 aI 2 0 0),(1,I level)]) (λs7=>[Nn ⟨aI,2,174,[[St s7.1,Bo s7.2.1]]⟩,Nn ⟨0,3,116,[[I U,St (⟨#[]⟩:BA),.nil]]⟩,Nn ⟨0,3,116,[[I s7.2.2.1,St s7.2.2.2.1,eL ZTE.c s7.2.2.2.2]]⟩]) λs7 ws7 h=>?_;let d0:=(⟨s7.2.2.1,s7.2.2.2.1,s7.2.2.2.2⟩:ae);refine go h λ_ h=>?_;refine T.jU h (λs9=>[(6,I s9.2.2),(5,.hp 2 0 3 0 0),(4,.hp 1 0 3 0 0),(0,.hp 0 aI 2 0 0),(1,I level)]) (λs9=>[Nn ⟨aI,2,174,[[St s9.1,Bo s9.2.1]]⟩,Nn ⟨0,3,116,[[I U,St (⟨#[]⟩:BA),.nil]]⟩,Nn ⟨0,3,116,[[I s7.2.2.1,St s7.2.2.2.1,eL ZTE.c s7.2.2.2.2]]⟩]) (λs9 h=>?_) λs9 h=>?_
  ·refine Ng h (λ_ q25 h=>?_) λ_ q25 h=>?_
   ·refine go h λ_ h=>?_;refine lX h λh=>?_;obtain rfl:=M4 h
    repeat (first|refine lD ?_|refine lF ?_)
    exact ⟨ak [(4,.fp (ae.c d0) 0)],[Nn ⟨aI,2,174,[(aa.c (⟨s9.1,s9.2.1⟩:aa))]⟩],Nh,jQ (vs:=[.agg (ae.c d0)]) (.cons (.cellF (.agg<|ae.c d0) Cm Z Z) .nil) ⟨Z,Z⟩⟩
   refine go h λ_ h=>?_;refine jP (dG [dF,([2],Nl),dF,dF,dF,([0],Nk),dF,dF,([2],Nk)]) (by kernel_rfl) (by kernel_rfl)<|go h λ_ h=>?_;refine jB h λv26 cv26 h=>fW 0 [] Z Z (λG hG=>EvA.call Z Z Z<|(ih (⟨s9.1,s9.2.1⟩:aa) (level-V) aI cv26).one 0 (hG.a0 Z) (.cons (.hp Z)<|.cons (.pF Z) .nil) (au Z) (au Z) Z)<|fN Z (M0.res (M0.mkF (c:=ae.c) ([d0,v26.2]:List ae) [[I s7.2.2.1,St s7.2.2.2.1,eL ZTE.c s7.2.2.2.2],(ae.c v26.2)] Bj Z Z Z qD ae.isF Z) (r':=eL ZTE.c ([d0.inn,v26.2.inn]:List ZTE)) λ_ _ hr=>CY ae.inn_c hr) ?_;refine go h λ_ h=>?_;exact lE h Nh
  refine go h λ_ h=>?_;refine oN (M0.mkF (c:=cI) ([(2:Int),(3:Int),(4:Int),(5:Int)]:LI) [[I (2:Int)],[I (3:Int)],[I (4:Int)],[I (5:Int)]] zy Z Z Z qD qD Z)<|go h λ_ h=>?_;refine tU h (λs12=>[(22,I s12.2.2.1),(21,I (([(2:Int),(3:Int),(4:Int),(5:Int)]:LI).length:Int)),(20,eL cI ([(2:Int),(3:Int),(4:Int),(5:Int)]:LI)),(6,I s12.2.2.2),(5,.hp 2 0 3 0 0),(4,.hp 1 0 3 0 0),(0,.hp 0 aI 2 0 0),(1,I level)]) (λs12=>[Nn ⟨aI,2,174,[[St s12.1,Bo s12.2.1]]⟩,Nn ⟨0,3,116,[[I U,St (⟨#[]⟩:BA),.nil]]⟩,Nn ⟨0,3,116,[[I s7.2.2.1,St s7.2.2.2.1,eL ZTE.c s7.2.2.2.2]]⟩]) λs12 ws12 h=>?_;refine go h λ_ h=>?_;refine jH ?_;refine jN Z h (λq14 h=>?_) λq14 h=>?_
  ·refine go h λ_ h=>?_;refine T.jU h (λs15=>[(6,I s15.2.2),(22,I s12.2.2.1),(21,I (([(2:Int),(3:Int),(4:Int),(5:Int)]:LI).length:Int)),(20,eL cI ([(2:Int),(3:Int),(4:Int),(5:Int)]:LI)),(5,.hp 2 0 3 0 0),(4,.hp 1 0 3 0 0),(0,.hp 0 aI 2 0 0),(1,I level)]) (λs15=>[Nn ⟨aI,2,174,[[St s15.1,Bo s15.2.1]]⟩,Nn ⟨0,3,116,[[I U,St (⟨#[]⟩:BA),.nil]]⟩,Nn ⟨0,3,116,[[I s7.2.2.1,St s7.2.2.2.1,eL ZTE.c s7.2.2.2.2]]⟩]) (λs15 h=>?_) λs15 h=>?_
   ·refine go h λ_ h=>?_;exact lE h Nh
   refine go h λ_ h=>?_;refine oC h (λ_=>m6 _) Z Z Z Z λv17 _ h=>(go h λ_ h=>?_);refine TO.jB h 4 (λs18=>[(38,Bo s18),(10,St v17.2.1),(8,I<|J ([(2:Int),(3:Int),(4:Int),(5:Int)]:LI) s12.2.2.1),(22,I s12.2.2.1),(21,I (([(2:Int),(3:Int),(4:Int),(5:Int)]:LI).length:Int)),(20,eL cI ([(2:Int),(3:Int),(4:Int),(5:Int)]:LI)),(6,I s12.2.2.2),(5,.hp 2 0 3 0 0),(4,.hp 1 0 3 0 0),(0,.hp 0 aI 2 0 0),(1,I level)]) (λs18=>[Nn ⟨aI,2,174,[[St s12.1,Bo s12.2.1]]⟩,Nn ⟨0,3,116,[[I U,St (⟨#[]⟩:BA),.nil]]⟩,Nn ⟨0,3,116,[[I s7.2.2.1,St s7.2.2.2.1,eL ZTE.c s7.2.2.2.2]]⟩]) (λs18 q19 h js18=>?_) (λs18 q19 h js18=>?_) λs18 h=>?_
   ·exact gj h js18
   ·exact gj h js18
   refine go h λ_ h=>?_;rcases Fc h with ⟨q20,h⟩ | ⟨q20,h⟩
   ·refine go h λ_ h=>?_;refine jB h λv22 cv22 h=>gA Z q20 (EvA.call Z Z Z<|(cn (⟨s12.1,s12.2.1⟩:aa) ((v17.2.1.data.getD U.toNat 0).toNat:Int) aI cv22).one 0 Z (.cons (.hp Z)<|.cons (.pF Z) .nil) (au Z) (au Z) Z)<|gp h λ_ h=>?_;refine gi h (λ_ q23 h=>?_) λ_ q23 h=>?_
    ·refine go h λ_ h=>?_
     cases h
     exact ⟨(),trivial,Nh⟩
    refine go h λ_ h=>?_
    cases h
    exact ⟨(),trivial,Nh⟩
   refine gp h λ_ h=>?_;refine go h λ_ h=>?_;refine T.cond Z (λq=>absurd (q.symm.trans Z)<|by decide) λ_=>?_;refine go h λ_ h=>?_
   cases h
   exact ⟨(),trivial,Nh⟩
  refine jM<|lX h λh=>?_
  cases h
  exact ⟨(),trivial,Nh⟩
theorem rF (r_:aa) (level:Int) (aI:Nat) {q} (h:iG r_ level=Nn q):f8 Nr 148 [.hp 0 aI 2 0 0,I level] [Nn ⟨aI,2,174,[(aa.c r_)]⟩] (.agg<|ae.c q.2) [Nn ⟨aI,2,174,[(aa.c q.1)]⟩]:=by
 obtain ⟨nf,h⟩:=tz h;exact qR nf r_ level aI h
theorem mE (s:List BA) (v:BA) {q} (h:bh s v=Nn q):aD Nr 259 [eL cS s,St v] (Bo q):=by
 refine pM func259 Z (by kernel_rfl) Z<|go h λ_ h=>?_;refine oC h (λ_=>gY _ _) Z Z Z Z λv1 _ h=>?_;exact gz h
theorem wE (name:BA) {q} (h:dI name=Nn q):aD Nr 214 [St name] (Bo q):=by
 refine pM func214 Z (by kernel_rfl) Z<|go h λ_ h=>?_;refine oN (M0.slG (c:=cS) DR Tryz.underlying255 ty9 Z Z Z H3)<|go h λ_ h=>?_;refine oC h (λ_=>mE _ _) Z Z Z Z λv1 _ h=>?_;exact gz h
theorem xy:∀ (nf:Nat) (e_:ae) (most:Int) {q} (h:dJ nf e_ most=Nn q),aD Nr 151 [.agg (ae.c e_),I most] (I q):=by
 intro nf
 induction nf with
 | zero=>intros;rename_i h;cases h
 | succ nf ih=>
  intro e_ most q h;replace h:fo (dJ nf) e_ most=Nn q:=h;refine pM func151 Z (by kernel_rfl) Z<|go h λ_ h=>?_;refine eF Z Z Z<|go h λ_ h=>?_;refine oC h (λ_=>m6 _) Z Z Z Z λv1 _ h=>(go h λ_ h=>?_);obtain ⟨Ks2,es2,ws2,h,ks2⟩:=Bq h;refine T.join (S:=Unit) (G:=Unit) (λs2=>Ks2 s2=Nn q) (λs2 gh=>True) (λs2 gh=>[(2,.fp (ae.c e_) 0),(1,I most)]) (λs2 gh=>[]) (λs2 gh h hg=>?_) ?_
  ·clear ks2;subst es2;refine go h λ_ h=>?_;refine T.jU h (λs10=>[(8,I s10)]) (λs10=>[]) (λs10 h=>?_) λs10 h=>?_
   ·exact gz h
   refine go h λ_ h=>?_;refine tU h (λs13=>[(49,I s13.1),(48,I (e_.Kids.length:Int)),(47,eL ZTE.c e_.Kids),(8,I s13.2),(1,I most)]) (λs13=>[]) λs13 ws13 h=>?_;refine go h λ_ h=>?_;refine jH ?_;refine jN Z h (λq15 h=>?_) λq15 h=>?_
   ·refine go h λ_ h=>?_;refine gs h λ_ h=>?_;refine jD h λg16 h=>oN (M0.res (M0.ixL Bj Z Z g16 ZTE.len) (r' := .fp (ae.c (J e_.Kids s13.1).out) 0) λ_ _ hr=>wX (ZTE.out_c _) hr)<|go h λ_ h=>?_;refine oC h (λ_=>ih _ _) Z Z Z Z λv18 _ h=>?_;refine gi h (λ_ q20 h=>?_) λ_ q20 h=>?_
    ·refine jM<|lX h λh=>?_
     cases h
     exact ⟨(),trivial,Nh⟩
    refine go h λ_ h=>?_;exact lE h Nh
   refine jM<|lX h λh=>?_
   cases h
   exact ⟨(),trivial,Nh⟩
  refine T.jU h (λs3=>[(45,Bo s3),(2,.fp (ae.c e_) 0),(1,I most)]) (λs3=>[]) (λs3 h=>?_) λs3 h=>?_
  ·refine jN Z h (λq9 h=>?_) λq9 h=>?_
   ·refine go h λ_ h=>?_;obtain rfl:=M4 h;replace h:=congrArg Nn (show _=_ from ks2);exact gz h
   refine go h λ_ h=>?_
   cases h
   exact ⟨(),(),ks2,trivial,Nh⟩
  refine T.drawG (λ_=>([],Nl)) (by kernel_rfl) (by kernel_rfl)<|go h λ_ h=>?_;rcases Fc h with ⟨q4,h⟩ | ⟨q4,h⟩
  ·refine gp h λ_ h=>?_;refine gp h λ_ h=>?_;refine gp h λ_ h=>?_;refine go h λ_ h=>?_
   cases h
   exact ⟨(),trivial,Nh⟩
  refine gp h λ_ h=>?_;refine go h λ_ h=>?_;rcases Fc h with ⟨q5,h⟩ | ⟨q5,h⟩
  ·refine gp h λ_ h=>?_;refine gp h λ_ h=>?_;refine go h λ_ h=>?_
   cases h
   exact ⟨(),trivial,Nh⟩
  refine go h λ_ h=>?_;refine jB h λv6 cv6 h=>tgN Z q5 Z (M0.call Z Z Z (wE e_.Name cv6) Z)<|tgN Z q5 Z (M0.bne bt4 Z Z) ?_;refine gp h λ_ h=>?_;refine go h λ_ h=>?_;rcases Fc h with ⟨q7,h⟩ | ⟨q7,h⟩
  ·refine gp h λ_ h=>?_;refine go h λ_ h=>?_
   cases h
   exact ⟨(),trivial,Nh⟩
  refine go h λ_ h=>?_;rcases Fc h with ⟨q8,h⟩ | ⟨q8,h⟩
  ·refine go h λ_ h=>?_;refine tgN Z q7 Z (M0.pickT Z q8 (Bo<|!decide (e_.Name=(⟨#[]⟩:BA))) Z)<|gp h λ_ h=>?_;refine go h λ_ h=>?_
   cases h
   exact ⟨(),trivial,Nh⟩
  refine go h λ_ h=>?_;refine tgN Z q7 Z (M0.pickF Z q8 (Bo Nl) Z)<|gp h λ_ h=>?_;refine go h λ_ h=>?_
  cases h
  exact ⟨(),trivial,Nh⟩
theorem yd (e_:ae) (most:Int) {q} (h:qH e_ most=Nn q):aD Nr 151 [.agg (ae.c e_),I most] (I q):=by
 obtain ⟨nf,h⟩:=tz h;exact xy nf e_ most h
theorem nM (e_:ae) {q} (h:bV e_=Nn q):aD Nr 92 [.agg (ae.c e_)] (Bo q):=by
 refine pM func92 Z (by kernel_rfl) Z<|go h λ_ h=>?_;refine eF Z Z Z<|go h λ_ h=>?_;refine oC h (λ_=>yd _ _) Z Z Z Z λv1 _ h=>?_;exact gz h
theorem xz:∀ (nf:Nat) (e_:ae) (most:Int) {q} (h:iz nf e_ most=Nn q),aD Nr 213 [.agg (ae.c e_),I most] (St q):=by
 intro nf
 induction nf with
 | zero=>intros;rename_i h;cases h
 | succ nf ih=>
  intro e_ most q h;replace h:kz (iz nf) e_ most=Nn q:=h;refine pM func213 Z (by kernel_rfl) Z<|go h λ_ h=>?_;refine eF Z Z Z<|go h λ_ h=>?_;refine oC h (λ_=>m6 _) Z Z Z Z λv1 _ h=>(go h λ_ h=>?_);refine T.jU h (λs2=>[(8,St s2),(5,I v1.1),(1,I most)]) (λs2=>[]) (λs2 h=>?_) λs2 h=>?_
  ·refine Ng h (λ_ q15 h=>?_) λ_ q15 h=>?_
   ·exact gz h
   exact gz h
  refine gi h (λ_ q3 h=>?_) λ_ q3 h=>?_
  ·refine go h λ_ h=>?_;refine jD h λg4 h=>oN (M0.res (M0.ixL Bj Z Z g4 ZTE.len) (r' := .fp (ae.c (J e_.Kids U).out) 0) λ_ _ hr=>wX (ZTE.out_c _) hr)<|go h λ_ h=>?_;refine oC h (λ_=>ih _ _) Z Z Z Z λv5 _ h=>(go h λ_ h=>?_)
   cases h
   exact ⟨(),trivial,Nh⟩
  refine gi h (λ_ q7 h=>?_) λ_ q7 h=>?_
  ·refine T.cl [6,5,2,1] Z<|T.drawP (by kernel_rfl) (by kernel_rfl) ?_;refine go h λ_ h=>?_;refine jD h λg8 h=>fN Z (M0.res (M0.ixL Bj Z Z g8 ZTE.len) (r' := .fp (ae.c (J e_.Kids U).out) 0) λ_ _ hr=>wX (ZTE.out_c _) hr)<|go h λ_ h=>?_;refine fC h (λ_=>ih _ _) Z Z Z Z Z λv9 _ h=>(go h λ_ h=>?_);refine jD h λg11 h=>fN Z (M0.res (M0.ixL Bj Z Z g11 ZTE.len) (r' := .fp (ae.c (J e_.Kids V).out) 0) λ_ _ hr=>wX (ZTE.out_c _) hr)<|go h λ_ h=>?_;refine fC h (λ_=>ih _ _) Z Z Z Z Z λv13 _ h=>(go h λ_ h=>?_)
   cases h
   exact ⟨(),trivial,Nh⟩
  refine go h λ_ h=>?_
  cases h
  exact ⟨(),trivial,Nh⟩
theorem yf (e_:ae) (most:Int) {q} (h:qI e_ most=Nn q):aD Nr 213 [.agg (ae.c e_),I most] (St q):=by
 obtain ⟨nf,h⟩:=tz h;exact xz nf e_ most h
theorem mO (e_:ae) {q} (h:dP e_=Nn q):aD Nr 149 [.agg (ae.c e_)] (St q):=by
 refine pM func149 Z (by kernel_rfl) Z<|go h λ_ h=>?_;refine eF Z Z Z<|go h λ_ h=>?_;refine gs h λ_ h=>?_;refine oC h (λ_=>nM _) Z Z Z Z λv1 _ h=>?_;refine gi h (λ_ q2 h=>?_) λ_ q2 h=>?_
 ·exact gz h
 refine go h λ_ h=>?_;refine oC h (λ_=>yf _ _) Z Z Z Z λv3 _ h=>?_;exact gz h
theorem ub (text:BA) {q} (h:ia text=Nn q):aD Nr 88 [St text] (.tup [.agg (ae.c q.1),Bo q.2]):=by
 refine pM func88 Z (by kernel_rfl) Z<|go h λ_ h=>?_;refine Ng h (λ_ q1 h=>?_) λ_ q1 h=>?_
 ·exact gf h
 refine go h λ_ h=>?_;refine eB Z Z<|go h λ_ h=>?_;refine jB h λv2 cv2 h=>oA (EvA.call Z Z Z<|(rF (⟨text,Nl⟩:aa) (3:Int) 0 cv2).one 1 Z (.cons (.hp Z)<|.cons (.pF Z) .nil) (au Z) (au Z) Z)<|go h λ_ h=>?_;refine gs h λ_ h=>?_;refine TO.jB h 6 (λs3=>[(25,Bo s3),(5,.hp 2 0 3 0 0),(2,.hp 0 0 3 0 0),(0,St text)]) (λs3=>[Nn ⟨0,3,116,[[I U,St (⟨#[]⟩:BA),.nil]]⟩,Nn ⟨0,2,174,[(aa.c v2.1)]⟩,Nn ⟨0,3,116,[(ae.c v2.2)]⟩]) (λs3 q4 h js3=>?_) (λs3 q4 h js3=>?_) λs3 h=>?_
 ·exact gj h js3
 ·refine go h λ_ h=>?_;refine gA Z q4 (lh (St v2.1.rest) ty9 Z Z Z) ?_;exact gj h js3
 refine go h λ_ h=>?_;refine TO.jB h 3 (λs5=>[(29,Bo s5),(5,.hp 2 0 3 0 0),(2,.hp 0 0 3 0 0),(0,St text)]) (λs5=>[Nn ⟨0,3,116,[[I U,St (⟨#[]⟩:BA),.nil]]⟩,Nn ⟨0,2,174,[(aa.c v2.1)]⟩,Nn ⟨0,3,116,[(ae.c v2.2)]⟩]) (λs5 q6 h js5=>?_) (λs5 q6 h js5=>?_) λs5 h=>?_
 ·exact gj h js5
 ·exact gj h js5
 refine go h λ_ h=>?_;refine TO.jB h 5 (λs7=>[(35,Bo s7),(5,.hp 2 0 3 0 0),(2,.hp 0 0 3 0 0)]) (λs7=>[Nn ⟨0,3,116,[[I U,St (⟨#[]⟩:BA),.nil]]⟩,Nn ⟨0,2,174,[(aa.c v2.1)]⟩,Nn ⟨0,3,116,[(ae.c v2.2)]⟩]) (λs7 q8 h js7=>?_) (λs7 q8 h js7=>?_) λs7 h=>?_
 ·exact gj h js7
 ·refine gA Z q8 (lh (.agg<|ae.c v2.2) Cm Z Z Z)<|jB h λv9 cv9 h=>gN Z q8 (M0.call Z Z Z (mO (⟨v2.2.Op,v2.2.Name,v2.2.Kids⟩:ae) cv9) Z) ?_;exact gj h js7
 refine gi h (λ_ q10 h=>?_) λ_ q10 h=>?_
 ·exact gf h
 exact gf h
theorem qf (x:Int) (low:Int) (high:Int) {q} (h:fu x low high=Nn q):aD Nr 77 [I x,I low,I high] (Bo q):=by
 refine pM func77 Z (by kernel_rfl) Z<|go h λ_ h=>?_;refine TO.jB h 4 (λs1=>[(14,Bo s1)]) (λs1=>[]) (λs1 q2 h js1=>?_) (λs1 q2 h js1=>?_) λs1 h=>?_
 ·exact gj h js1
 ·exact gj h js1
 exact gz h
theorem uf (r_:ai) {q} (h:dY r_=Nn q):aD Nr 91 [.agg (ai.c r_)] (Bo q):=by
 refine pM func91 Z (by kernel_rfl) Z<|go h λ_ h=>?_;refine eF Z Z Z<|go h λ_ h=>?_;refine oC h (λ_=>qf _ _ _) Z Z Z Z λv1 _ h=>(go h λ_ h=>?_);refine TO.jB h 5 (λs2=>[(12,Bo s2)]) (λs2=>[]) (λs2 q3 h js2=>?_) (λs2 q3 h js2=>?_) λs2 h=>?_
 ·exact gj h js2
 ·refine go h λ_ h=>?_;refine jB h λv4 cv4 h=>gN Z q3 (M0.call Z Z Z (nM r_.Expr cv4) Z) ?_;exact gj h js2
 exact gz h
theorem dm (s:List ai) {q} (h:ay s=Nn q):aD Nr 150 [eL ai.c s,.fn (.func 91) []] (I q):=by
 refine pM func150 Z (by kernel_rfl) Z<|go h λ_ h=>?_;obtain ⟨Ks1,es1,ws1,h,ks1⟩:=Bq h;refine T.join (S:=Unit) (G:=Unit) (λs1=>Ks1 s1=Nn q) (λs1 gh=>True) (λs1 gh=>[]) (λs1 gh=>[]) (λs1 gh h hg=>?_) ?_
 ·clear ks1;subst es1;exact gz h
 refine go h λ_ h=>?_;refine tU h (λs4=>[(8,I s4),(7,I (s.length:Int)),(0,eL ai.c s),(1,.fn (.func 91) [])]) (λs4=>[]) λs4 ws4 h=>?_;refine go h λ_ h=>?_;refine jH ?_;refine jN Z h (λq6 h=>?_) λq6 h=>?_
 ·refine go h λ_ h=>?_;refine gs h λ_ h=>?_;refine oC h (λ_=>uf _) Z Z Z Z λv8 _ h=>?_;refine gi h (λ_ q9 h=>?_) λ_ q9 h=>?_
  ·refine go h λ_ h=>?_;refine lX h λh=>?_;obtain rfl:=M4 h;replace h:=congrArg Nn (show _=_ from ks1);exact gz h
  refine go h λ_ h=>?_;exact lE h Nh
 refine jM<|lX h λh=>?_
 cases h
 exact ⟨(),(),ks1,trivial,Nh⟩
theorem cA (s:List ai) {q} (h:ax s=Nn q):aD Nr 90 [eL ai.c s,.fn (.func 91) []] (Bo q):=by
 refine pM func90 Z (by kernel_rfl) Z<|go h λ_ h=>?_;refine oC h (λ_=>dm _) Z Z Z Z λv1 _ h=>?_;exact gz h
theorem qg (m:List ai) {q} (h:db m=Nn q):aD Nr 38 [eL ai.c m] (Bo q):=by
 refine pM func38 Z (by kernel_rfl) Z<|go h λ_ h=>?_;refine oC h (λ_=>qf _ _ _) Z Z Z Z λv1 _ h=>(go h λ_ h=>?_);refine TO.jB h 4 (λs2=>[(10,Bo s2)]) (λs2=>[]) (λs2 q3 h js2=>?_) (λs2 q3 h js2=>?_) λs2 h=>?_
 ·refine go h λ_ h=>?_;refine jB h λv4 cv4 h=>gN Z q3 (M0.call Z Z Z (cA m cv4) Z) ?_;exact gj h js2
 ·exact gj h js2
 exact gz h
theorem uG (m:List ai) {q} (h:iR m=Nn q):aD Nr 89 [eL ai.c m] (St q):=by
 refine pM func89 Z (by kernel_rfl) Z<|go h λ_ h=>?_;refine gs h λ_ h=>?_;refine oC h (λ_=>qg _) Z Z Z Z λv1 _ h=>?_;refine gi h (λ_ q2 h=>?_) λ_ q2 h=>?_
 ·exact gz h
 refine go h λ_ h=>?_;refine jD h λg3 h=>oA (EvA.mkN (c:=cS) (Nj:BA) Kl Z Z g3 Z Z Z)<|go h λ_ h=>?_;refine tJ h (λs4 gh=>[(3,hS Nl 0 gh 1 s4.length)]) (λs4 gh=>[bE Nl gh 1 9 (s4.map cS)]) (λs4 u19 h=>?_) λs4 h=>?_
 ·refine go h λ_ h=>?_;refine jB h λv20 cv20 h=>oA (EvA.callT Z Z (xZ s4 (⟨#[47]⟩:BA) cv20) (.cons (Fz.own (g:=false) (ver:=u19) (l:=s4) Z Z Z nofun qD)<|.cons (qC Z) .nil) Z) ?_;exact gz h
 refine go h λ_ h=>?_;refine tT h 0 (λs8 gh=>[(14,I s8.2),(13,I (m.length:Int)),(12,eL ai.c m),(3,hS Nl 0 gh 1 s8.1.length)]) (λs8 gh=>[bE Nl gh 1 9 (s8.1.map cS)]) λs8 u10 ws8 h=>?_;let d0:=(J m s8.2).Kind;refine go h λ_ h=>?_;refine jH ?_;refine jN Z h (λq11 h=>?_) λq11 h=>?_
 ·refine go h λ_ h=>?_;refine gs h λ_ h=>?_;refine jP (dG [dF,dF,dF,([1],Nl),dF,dF,dF,dF,([1],Nl),dF,dF,dF,([0],Nk)]) (by kernel_rfl) (by kernel_rfl)<|go h λ_ h=>?_;refine jD h λg13 h=>fN Z (M0.ixafp Tryz.underlying113 ty9 Z Z g13)<|fN Z (M0.ldG (c:=cS) (l:=zR) (St<|J zR d0) ty9 Z Jz (bH (l:=zR) Z g13) Z Z) ?_;refine go h λ_ h=>?_;refine fC h (λ_=>mO _) Z Z Z Z Z λv15 _ h=>(go h λf h=>?_);obtain ⟨g17,_⟩:=f;refine fV 0 [] Z Z (λG hG=>EvA.stO (g:=false) (l:=s8.1) (cs:=[St (((J zR d0)++(⟨#[32]⟩:BA))++v15)]) (((J zR d0)++(⟨#[32]⟩:BA))++v15) ty9 Z Z (hG.a0 Z) nofun (bH Z g17) Z Z Z)<|go h λ_ h=>?_;obtain rfl:=M4 h;exact ⟨((s8.1.set s8.2.toNat<|((J zR d0)++(⟨#[32]⟩:BA))++v15),(s8.2+(1:Int))),u10,Z,trivial,qZ Z (.cons (.list (g:=false) (ver:=u10) (l:=(s8.1.set s8.2.toNat<|((J zR d0)++(⟨#[32]⟩:BA))++v15)) qD) .nil)<|aj (.fz<|qC Z)<|aj (.fz<|qC Z)<|aj (.fz<|qC Z)<|aj (.eqv (congrArg (hS Nl 0 u10 1) (by simp:s8.1.length=(s8.1.set s8.2.toNat<|((J zR d0)++(⟨#[32]⟩:BA))++v15).length))<|.hS (g:=false) (b:=0) (ver:=u10) (s:=1) (n:=(s8.1.set s8.2.toNat<|((J zR d0)++(⟨#[32]⟩:BA))++v15).length) Z) bg⟩
 refine jM<|lX h λh=>?_
 cases h
 exact ⟨u10,trivial,Nh⟩
theorem vA (text:BA) {q} (h:jo text=Nn q):aD Nr 36 [St text] (.tup [eL ai.c q.1,Bo q.2]):=by
 refine pM func36 Z (by kernel_rfl) Z<|jI ?_;refine gq h λ_ h=>?_;refine jH<|T.reserve ?_;refine go h λ_ h=>?_;obtain ⟨Ks1,es1,ws1,h,ks1⟩:=Bq h;refine T.join (S:=(List ai)) (G:=(Bool×Nat)) (λs1=>Ks1 s1=Nn q) (λs1 gh=>(gh.1=Nk->s1=[])) (λs1 gh=>[(4,hS gh.1 0 gh.2 4 s1.length),(0,St text)]) (λs1 gh=>[bE gh.1 gh.2 4 120 (s1.map ai.c)]) (λs1 gh h n25=>?_) ?_
 ·clear ks1;subst es1;obtain ⟨b24,u23⟩:=gh;refine gs h λ_ h=>?_;refine jB h λv26 cv26 h=>oA (EvA.callT Z Z (uG s1 cv26) (.cons (Fz.own (g:=b24) (ver:=u23) (l:=s1) Z Z Z n25 ai.isF) .nil) Z) ?_;refine gi h (λ_ q27 h=>?_) λ_ q27 h=>?_
  ·exact gf h
  exact gf h
 refine go h λ_ h=>?_;refine oC h (λ_=>xx _ _) Z Z Z Z λv2 _ h=>(go h λ_ h=>?_);refine tL h (Nk,0) (λs8 gh=>(gh.1=Nk->s8.1=[])) (λs8 gh=>[(16,I s8.2),(15,I (v2.length:Int)),(14,eL cS v2),(4,hS gh.1 0 gh.2 4 s8.1.length),(0,St text)]) (λs8 gh=>[bE gh.1 gh.2 4 120 (s8.1.map ai.c)]) qD λs8 gh ws8 h n12=>?_;obtain ⟨b11,u10⟩:=gh;refine go h λ_ h=>?_;refine jH ?_;refine jN Z h (λq13 h=>?_) λq13 h=>?_
 ·refine go h λ_ h=>?_;refine gs h λ_ h=>?_;refine oC h (λ_=>zC _ _) Z Z Z Z λv15 _ h=>(go h λ_ h=>?_);refine oN (M0.slG (c:=cS) zR Tryz.underlying113 ty9 Z Z Z HZ)<|go h λ_ h=>?_;refine oC h (λ_=>gY _ _) Z Z Z Z λv16 _ h=>(go h λ_ h=>?_);refine oC h (λ_=>ub _) Z Z Z Z λv17 _ h=>(go h λ_ h=>?_);refine gs h λ_ h=>?_;refine TO.jB h 3 (λs18=>[(39,Bo s18),(11,.hp 1 0 3 0 0),(10,I v16),(16,I s8.2),(15,I (v2.length:Int)),(14,eL cS v2),(4,hS b11 0 u10 4 s8.1.length),(0,St text)]) (λs18=>[bE b11 u10 4 120 (s8.1.map ai.c),Nn ⟨0,3,116,[[I v17.1.Op,St v17.1.Name,eL ZTE.c v17.1.Kids]]⟩]) (λs18 q19 h js18=>?_) (λs18 q19 h js18=>?_) λs18 h=>?_
  ·exact gj h js18
  ·exact gj h js18
  refine gi h (λ_ q20 h=>?_) λ_ q20 h=>?_
  ·refine go h λ_ h=>?_;refine lX h λh=>?_;obtain rfl:=M4 h;replace h:=congrArg Nn (show _=_ from ks1);exact gf h
  refine go h λ_ h=>?_;refine oN (M0.mkF (c:=ai.c) ([(⟨v16,(⟨v17.1.Op,v17.1.Name,v17.1.Kids⟩:ae)⟩:ai)]:List ai) [[I v16,I v17.1.Op,St v17.1.Name,eL ZTE.c v17.1.Kids]] MR Z Z Z qD ai.isF Z)<|go h λ_ h=>?_;obtain rfl:=M4 h;exact ⟨((s8.1++[(⟨v16,(⟨v17.1.Op,v17.1.Name,v17.1.Kids⟩:ae)⟩:ai)]),(s8.2+V)),(Nl,u10+1),Z,nofun,Nh⟩
 refine jM<|lX h λh=>?_;obtain rfl:=M4 h;exact ⟨s8.1,(b11,u10),ks1,n12,Nh⟩
theorem yg (name:BA) {q} (h:j5 name=Nn q):aD Nr 11 [St name] (.tup [eL ai.c q.1,Bo q.2]):=by
 refine pM func11 Z (by kernel_rfl) Z<|go h λ_ h=>?_;refine oC h (λ_=>wD _) Z Z Z Z λv1 _ h=>oC h (λ_=>vA _) Z Z Z Z λv2 _ h=>?_;exact gf h
theorem mP (x:M6) (loc:Int) (i:Int) (k_:Int) {q} (h:dQ x loc i k_=Nn q):aD Nr 260 [.agg (M6.c x),I loc,I i,I k_] (Bo q):=by
 refine pM func260 Z (by kernel_rfl) Z<|go h λ_ h=>?_;refine eF Z Z Z<|go h λ_ h=>?_;refine jH<|T.drawP (by kernel_rfl) (by kernel_rfl) ?_;refine go h λf h=>?_;obtain ⟨g1,_⟩:=f;refine fC h (λ_=>lg _ _) Z Z Z Z Z λv2 _ h=>(go h λ_ h=>?_);refine fC h (λ_=>lg _ _) Z Z Z Z Z λv3 _ h=>(go h λ_ h=>?_);refine TO.jB h 3 (λs4=>[(30,Bo s4),(10,I v3),(9,I v2)]) (λs4=>[]) (λs4 q5 h js4=>?_) (λs4 q5 h js4=>?_) λs4 h=>?_
 ·exact gj h js4
 ·exact gj h js4
 refine go h λ_ h=>?_;refine TO.jB h 4 (λs6=>[(35,Bo s6)]) (λs6=>[]) (λs6 q7 h js6=>?_) (λs6 q7 h js6=>?_) λs6 h=>?_
 ·exact gj h js6
 ·exact gj h js6
 exact gz h
theorem xA (y:M5) {q} (h:pO y=Nn q):aD Nr 262 [.agg (M5.c y)] (Bo q):=by
 refine pM func262 Z (by kernel_rfl) Z<|go h λ_ h=>?_;refine eF Z Z Z ?_;exact gz h
theorem dC (s:List M5) {q} (h:aR s=Nn q):aD Nr 279 [eL M5.c s,.fn (.func 262) []] (I q):=by
 refine pM func279 Z (by kernel_rfl) Z<|go h λ_ h=>?_;obtain ⟨Ks1,es1,ws1,h,ks1⟩:=Bq h;refine T.join (S:=Unit) (G:=Unit) (λs1=>Ks1 s1=Nn q) (λs1 gh=>True) (λs1 gh=>[]) (λs1 gh=>[]) (λs1 gh h hg=>?_) ?_
 ·clear ks1;subst es1;exact gz h
 refine go h λ_ h=>?_;refine tU h (λs4=>[(8,I s4),(7,I (s.length:Int)),(0,eL M5.c s),(1,.fn (.func 262) [])]) (λs4=>[]) λs4 ws4 h=>?_;refine go h λ_ h=>?_;refine jH ?_;refine jN Z h (λq6 h=>?_) λq6 h=>?_
 ·refine go h λ_ h=>?_;refine gs h λ_ h=>?_;refine oC h (λ_=>xA _) Z Z Z Z λv8 _ h=>?_;refine gi h (λ_ q9 h=>?_) λ_ q9 h=>?_
  ·refine go h λ_ h=>?_;refine lX h λh=>?_;obtain rfl:=M4 h;replace h:=congrArg Nn (show _=_ from ks1);exact gz h
  refine go h λ_ h=>?_;exact lE h Nh
 refine jM<|lX h λh=>?_
 cases h
 exact ⟨(),(),ks1,trivial,Nh⟩
theorem cZ (s:List M5) {q} (h:aC s=Nn q):aD Nr 261 [eL M5.c s,.fn (.func 262) []] (Bo q):=by
 refine pM func261 Z (by kernel_rfl) Z<|go h λ_ h=>?_;refine oC h (λ_=>dC _) Z Z Z Z λv1 _ h=>?_;exact gz h
theorem iy (e_:M7) (writes:Bool) {q} (h:df e_ writes=Nn q):aD Nr 263 [.agg (M7.c e_),Bo writes] (Bo q):=by
 refine pM func263 Z (by kernel_rfl) Z<|go h λ_ h=>?_;refine eF Z Z Z<|go h λ_ h=>?_;refine oN (M0.beq bt4 Z Z)<|go h λ_ h=>?_;refine TO.jB h 5 (λs1=>[(14,Bo s1)]) (λs1=>[]) (λs1 q2 h js1=>?_) (λs1 q2 h js1=>?_) λs1 h=>?_
 ·refine go h λ_ h=>?_;refine gN Z q2 (M0.bne bt4 Z Z) ?_;exact gj h js1
 ·exact gj h js1
 exact gz h
theorem zD (p:List<|List M5) (x:M6) (list:List M7) (name:BA) (i:Int) (k_:Int) {q} (h:oL p x list name i k_=Nn q):aD Nr 217 [eL (cL M5.c) p,.agg (M6.c x),eL M7.c list,St name,I i,I k_] (Bo q):=by
 let d1:=M7.c<|J list i;let d0:=M7.c<|J list k_;refine pM func217 Z (by kernel_rfl) Z<|go h λ_ h=>?_;refine eF Z Z Z<|gq h λ_ h=>?_;refine jH<|T.reserve<|T.reserve<|jP (dG [dF,dF,dF,dF,dF,dF,dF,dF,([0],Nk),([1],Nk),([0],Nk),([1],Nk)]) (by kernel_rfl) (by kernel_rfl) ?_;refine go h λ_ h=>?_;refine fW 0 [] Z Z (λG hG=>EvA.alR 0 Mb Z Z<|hG.a0 Z)<|fW 1 [] Z Z (λG hG=>EvA.alR 1 Mb Z Z<|hG.a0 Z) ?_;refine go h λ_ h=>?_;refine TO.jB h 6 (λs3=>[(33,Bo s3),(14,.hp 1 0 5 0 0),(13,.hp 0 0 5 0 0),(7,.fp (M6.c x) 0),(0,eL (cL M5.c) p),(3,St name),(4,I i),(5,I k_)]) (λs3=>[Nn ⟨0,5,60,[d1]⟩,Nn ⟨0,5,60,[d0]⟩]) (λs3 q4 h js3=>?_) (λs3 q4 h js3=>?_) λs3 h=>?_
 ·refine go h λ_ h=>?_;refine gA Z q4 (lh (I<|(J list i).Thread) ty3 Z Z Z)<|go h λ_ h=>?_;refine gA Z q4 (lh (I<|(J list k_).Thread) ty3 Z Z Z) ?_;exact gj h js3
 ·exact gj h js3
 refine go h λ_ h=>?_;refine TO.jB h 6 (λs5=>[(40,Bo s5),(14,.hp 1 0 5 0 0),(13,.hp 0 0 5 0 0),(7,.fp (M6.c x) 0),(0,eL (cL M5.c) p),(3,St name),(4,I i),(5,I k_)]) (λs5=>[Nn ⟨0,5,60,[d1]⟩,Nn ⟨0,5,60,[d0]⟩]) (λs5 q6 h js5=>?_) (λs5 q6 h js5=>?_) λs5 h=>?_
 ·refine go h λ_ h=>?_;refine gA Z q6 (lh (I<|(J list i).Index) ty3 Z Z Z)<|go h λ_ h=>?_;refine gA Z q6 (lh (I<|(J list k_).Index) ty3 Z Z Z) ?_;exact gj h js5
 ·exact gj h js5
 refine go h λ_ h=>?_;obtain ⟨Ks7,es7,ws7,h,ks7⟩:=Bq h;refine T.join (S:=Unit) (G:=Unit) (λs7=>Ks7 s7=Nn q) (λs7 gh=>True) (λs7 gh=>[(4,I i),(5,I k_)]) (λs7 gh=>[Nn ⟨0,5,60,[d1]⟩,Nn ⟨0,5,60,[d0]⟩]) (λs7 gh h hg=>?_) ?_
 ·clear ks7;subst es7;exact gz h
 refine gi h (λ_ q8 h=>?_) λ_ q8 h=>?_
 ·refine go h λ_ h=>?_;obtain rfl:=M4 h;replace h:=congrArg Nn (show _=_ from ks7);exact gz h
 refine gi h (λ_ q9 h=>?_) λ_ q9 h=>?_
 ·refine go h λ_ h=>?_;obtain rfl:=M4 h;replace h:=congrArg Nn (show _=_ from ks7);exact gz h
 refine gi h (λ_ q10 h=>?_) λ_ q10 h=>?_
 ·refine go h λ_ h=>?_;refine TO.jB h 4 (λs11=>[(63,Bo s11)]) (λs11=>[Nn ⟨0,5,60,[d1]⟩,Nn ⟨0,5,60,[d0]⟩]) (λs11 q12 h js11=>?_) (λs11 q12 h js11=>?_) λs11 h=>?_
  ·exact gj h js11
  ·refine go h λ_ h=>?_;refine gA Z q12 (lh (I<|(J list i).Thread) ty3 Z Z Z) ?_;exact gj h js11
  refine go h λ_ h=>?_;obtain rfl:=M4 h;replace h:=congrArg Nn (show _=_ from ks7);exact gz h
 refine gi h (λ_ q13 h=>?_) λ_ q13 h=>?_
 ·refine go h λ_ h=>?_;obtain rfl:=M4 h;replace h:=congrArg Nn (show _=_ from ks7);exact gz h
 refine gi h (λ_ q15 h=>?_) λ_ q15 h=>?_
 ·refine go h λ_ h=>?_;refine oC h (λ_=>mP _ _ _ _) Z Z Z Z λv16 _ h=>(go h λ_ h=>?_);obtain rfl:=M4 h;replace h:=congrArg Nn (show _=_ from ks7);exact gz h
 refine gi h (λ_ q17 h=>?_) λ_ q17 h=>?_
 ·refine T.jU h (λs18=>[(12,Bo s18)]) (λs18=>[Nn ⟨0,5,60,[d1]⟩,Nn ⟨0,5,60,[d0]⟩]) (λs18 h=>?_) λs18 h=>?_
  ·refine go h λ_ h=>?_;obtain rfl:=M4 h;replace h:=congrArg Nn (show _=_ from ks7);exact gz h
  refine T.cl [14,13,7,4,5] Z<|T.drawG (dG [dF,([0],Nl),dF,dF,([1],Nl),dF,dF,dF,dF,dF,dF,dF,dF,dF,([0],Nl),dF,dF,dF,dF,dF,dF,dF,dF,dF]) (by kernel_rfl) (by kernel_rfl) ?_;refine go h λ_ h=>?_;rcases Fc h with ⟨q19,h⟩ | ⟨q19,h⟩
  ·refine go h λ_ h=>?_;refine tgR Z q19 [1] Z (λG hG=>EvA.loadhp (Bo<|(J list k_).cu) ty4 Z (hG.a0 Z) Z Z Z Z)<|gp h λ_ h=>?_;refine go h λ_ h=>?_;rcases Fc h with ⟨q20,h⟩ | ⟨q20,h⟩
   ·refine gp h λ_ h=>?_;refine go h λ_ h=>?_;rcases Fc h with ⟨q21,h⟩ | ⟨q21,h⟩
    ·refine go h λ_ h=>?_;refine tgR Z q21 [0] Z (λG hG=>EvA.loadhp (I<|(J list i).Loc) ty3 Z (hG.a0 Z) Z Z Z Z)<|go h λ_ h=>?_;refine jB h λv23 cv23 h=>tgN Z q21 Z (M0.call Z Z Z (mP x ((J list i).Loc) (J x.From i) k_ cv23) Z)<|gp h λ_ h=>?_;refine go h λ_ h=>?_
     cases h
     exact ⟨(),trivial,Nh⟩
    refine gp h λ_ h=>?_;refine go h λ_ h=>?_
    cases h
    exact ⟨(),trivial,Nh⟩
   refine gp h λ_ h=>?_;refine gp h λ_ h=>?_;refine go h λ_ h=>?_
   cases h
   exact ⟨(),trivial,Nh⟩
  refine gp h λ_ h=>?_;refine gp h λ_ h=>?_;refine gp h λ_ h=>?_;refine go h λ_ h=>?_
  cases h
  exact ⟨(),trivial,Nh⟩
 refine gi h (λ_ q24 h=>?_) λ_ q24 h=>?_
 ·refine T.jU h (λs25=>[(12,Bo s25)]) (λs25=>[Nn ⟨0,5,60,[d1]⟩,Nn ⟨0,5,60,[d0]⟩]) (λs25 h=>?_) λs25 h=>?_
  ·refine go h λ_ h=>?_;obtain rfl:=M4 h;replace h:=congrArg Nn (show _=_ from ks7);exact gz h
  refine T.cl [15,14,13,0] Z<|T.drawG (dG [dF,dF,dF,dF,([0],Nl),dF,dF,dF,([0],Nl),dF,([1],Nl),dF,dF,dF,dF]) (by kernel_rfl) (by kernel_rfl) ?_;refine go h λ_ h=>?_;rcases Fc h with ⟨q26,h⟩ | ⟨q26,h⟩
  ·refine go h λ_ h=>?_;refine tgR Z q26 [0] Z (λG hG=>EvA.loadhp (I<|(J list i).Thread) ty3 Z (hG.a0 Z) Z Z Z Z)<|go h λ_ h=>?_;refine tgR Z q26 [0] Z (λG hG=>EvA.loadhp (I<|(J list i).Index) ty3 Z (hG.a0 Z) Z Z Z Z)<|go h λ_ h=>?_;refine tgR Z q26 [1] Z (λG hG=>EvA.loadhp (I<|(J list k_).Index) ty3 Z (hG.a0 Z) Z Z Z Z)<|jD h λg28 h=>tgN Z q26 Z (M0.slL Bu Z (.yes Z) (.yes Z) g28 qD)<|jB h λv29 cv29 h=>tgN Z q26 Z (M0.call Z Z Z (cZ (((J p<|(J list i).Thread).drop ((J list i).Index).toNat).take<|((J list k_).Index).toNat-((J list i).Index).toNat) cv29) Z) ?_;refine gp h λ_ h=>?_;refine go h λ_ h=>?_
   cases h
   exact ⟨(),trivial,Nh⟩
  refine gp h λ_ h=>?_;refine go h λ_ h=>?_
  cases h
  exact ⟨(),trivial,Nh⟩
 refine gi h (λ_ q30 h=>?_) λ_ q30 h=>?_
 ·refine go h λ_ h=>?_;refine oC h (λ_=>iy _ _) Z Z Z Z λv31 _ h=>(go h λ_ h=>?_);refine TO.jB h 3 (λs32=>[(129,Bo s32)]) (λs32=>[Nn ⟨0,5,60,[d1]⟩,Nn ⟨0,5,60,[d0]⟩]) (λs32 q33 h js32=>?_) (λs32 q33 h js32=>?_) λs32 h=>?_
  ·refine gA Z q33 (lh (.agg d0) Ma Z Z Z)<|jB h λv34 cv34 h=>gN Z q33 (M0.call Z Z Z (iy (⟨(J list k_).Thread,(J list k_).Index,(J list k_).Loc,(J list k_).Reads,(J list k_).cu⟩:M7) Nl cv34) Z) ?_;exact gj h js32
  ·exact gj h js32
  refine go h λ_ h=>?_;obtain rfl:=M4 h;replace h:=congrArg Nn (show _=_ from ks7);exact gz h
 refine gi h (λ_ q35 h=>?_) λ_ q35 h=>?_
 ·refine go h λ_ h=>?_;refine oC h (λ_=>iy _ _) Z Z Z Z λv36 _ h=>(go h λ_ h=>?_);refine TO.jB h 3 (λs37=>[(137,Bo s37)]) (λs37=>[Nn ⟨0,5,60,[d1]⟩,Nn ⟨0,5,60,[d0]⟩]) (λs37 q38 h js37=>?_) (λs37 q38 h js37=>?_) λs37 h=>?_
  ·refine gA Z q38 (lh (.agg d0) Ma Z Z Z)<|jB h λv39 cv39 h=>gN Z q38 (M0.call Z Z Z (iy (⟨(J list k_).Thread,(J list k_).Index,(J list k_).Loc,(J list k_).Reads,(J list k_).cu⟩:M7) Nk cv39) Z) ?_;exact gj h js37
  ·exact gj h js37
  refine go h λ_ h=>?_;obtain rfl:=M4 h;replace h:=congrArg Nn (show _=_ from ks7);exact gz h
 refine go h λ_ h=>?_
 cases h
 exact ⟨(),(),ks7,trivial,Nh⟩
theorem yh (i:Int) (k_:Int) (a2:List<|List M5) (a3:M6) (a4:List M7) (a5:BA) {q} (h:qJ i k_ a2 a3 a4 a5=Nn q):aD Nr 216 [I i,I k_,.fp ((cL<|cL M5.c) a2) 0,.fp (M6.c a3) 0,.fp ((cL M7.c) a4) 0,.fp (cS a5) 0] (Bo q):=by
 refine pM func216 Z (by kernel_rfl) Z<|go h λ_ h=>?_;refine oC h (λ_=>zD _ _ _ _ _ _) Z Z Z Z λv1 _ h=>?_;exact gz h
theorem nN (n:Int) (is0:List<|List M5) (is1:M6) (is2:List M7) (is3:BA) {q} (h:iS n is0 is1 is2 is3=Nn q):aD Nr 215 [I n,.fn (.func 216) [.fp ((cL<|cL M5.c) is0) 0,.fp (M6.c is1) 0,.fp ((cL M7.c) is2) 0,.fp (cS is3) 0]] (eL cI q):=by
 refine pM func215 Z (by kernel_rfl) Z<|go h λ_ h=>?_;refine jD h λg1 h=>oA (EvA.mkN (c:=cI) (Nj:Int) zy Z Z g1 Z Z Z)<|go h λ_ h=>?_;refine tJ h (λs2 gh=>[(5,hS Nl 0 gh 1 s2.length)]) (λs2 gh=>[bE Nl gh 1 3 (s2.map cI)]) (λs2 u27 h=>?_) λs2 h=>?_
 ·exact gf h
 refine go h λ_ h=>?_;refine tT h 0 (λs6 gh=>[(11,I s6.2),(10,I n),(5,hS Nl 0 gh 1 s6.1.length),(0,I n),(1,.fn (.func 216) [.fp ((cL<|cL M5.c) is0) 0,.fp (M6.c is1) 0,.fp ((cL M7.c) is2) 0,.fp (cS is3) 0])]) (λs6 gh=>[bE Nl gh 1 3 (s6.1.map cI)]) λs6 u8 ws6 h=>?_;refine go h λ_ h=>?_;refine jH ?_;refine jN Z h (λq9 h=>?_) λq9 h=>?_
 ·refine go h λ_ h=>?_;refine tJ h (λs10 gh=>[(11,I s6.2),(10,I n),(5,hS Nl 0 gh 1 s10.length),(0,I n),(1,.fn (.func 216) [.fp ((cL<|cL M5.c) is0) 0,.fp (M6.c is1) 0,.fp ((cL M7.c) is2) 0,.fp (cS is3) 0])]) (λs10 gh=>[bE Nl gh 1 3 (s10.map cI)]) (λs10 u25 h=>?_) λs10 h=>?_
  ·refine go h λ_ h=>?_;obtain rfl:=M4 h;exact ⟨(s10,(s6.2+V)),u25,Z,trivial,Nh⟩
  refine go h λ_ h=>?_;refine tT h u8 (λs14 gh=>[(15,I s14.2),(14,I n),(6,I s6.2),(11,I s6.2),(10,I n),(5,hS Nl 0 gh 1 s14.1.length),(0,I n),(1,.fn (.func 216) [.fp ((cL<|cL M5.c) is0) 0,.fp (M6.c is1) 0,.fp ((cL M7.c) is2) 0,.fp (cS is3) 0])]) (λs14 gh=>[bE Nl gh 1 3 (s14.1.map cI)]) λs14 u16 ws14 h=>?_;refine go h λ_ h=>?_;refine jH ?_;refine jN Z h (λq17 h=>?_) λq17 h=>?_
  ·refine go h λ_ h=>?_;refine tJ h (λs18 gh=>[(15,I s14.2),(14,I n),(6,I s6.2),(11,I s6.2),(10,I n),(5,hS Nl 0 gh 1 s18.length),(0,I n),(1,.fn (.func 216) [.fp ((cL<|cL M5.c) is0) 0,.fp (M6.c is1) 0,.fp ((cL M7.c) is2) 0,.fp (cS is3) 0])]) (λs18 gh=>[bE Nl gh 1 3 (s18.map cI)]) (λs18 u23 h=>?_) λs18 h=>?_
   ·refine go h λ_ h=>?_;obtain rfl:=M4 h;exact ⟨(s18,(s14.2+V)),u23,Z,trivial,Nh⟩
   refine go h λ_ h=>?_;refine oC h (λ_=>yh _ _ _ _ _ _) Z Z Z Z λv19 _ h=>?_;refine gi h (λ_ q20 h=>?_) λ_ q20 h=>?_
   ·refine jP (dG [dF,dF,dF,([0],Nl),dF,dF,dF,dF,([0],Nk)]) (by kernel_rfl) (by kernel_rfl)<|go h λf h=>?_;obtain ⟨_,g21,_⟩:=f;refine fV 0 [] Z Z (λG hG=>EvA.stO (g:=false) (l:=s14.1) (cs:=[I (bOr .i64 (J s14.1 s6.2)<|Fb .i64 V s14.2)]) (bOr .i64 (J s14.1 s6.2)<|Fb .i64 V s14.2) ty3 Z Z (hG.a0 Z) nofun (bH Z g21) Z Z Z)<|go h λ_ h=>?_;obtain rfl:=M4 h;exact ⟨u16,trivial,zO Z<|MZ Z<|MZ Z<|MZ Z<|MZ Z<|MZ Z<|MZ (congrArg (hS Nl 0 u16 1) (by simp:s14.1.length=(s14.1.set s6.2.toNat<|bOr .i64 (J s14.1 s6.2)<|Fb .i64 (1:Int) s14.2).length))<|MZ Z<|MZ Z wkN⟩
   refine go h λ_ h=>?_
   cases h
   exact ⟨u16,trivial,Nh⟩
  refine jM<|lX h λh=>?_
  cases h
  exact ⟨u16,trivial,Nh⟩
 refine jM<|lX h λh=>?_
 cases h
 exact ⟨u8,trivial,Nh⟩
theorem zT (p:List<|List M5) (x:M6) (name:BA) {q} (h:gW p x name=Nn q):aD Nr 152 [eL (cL M5.c) p,.agg (M6.c x),St name] (eL cI q):=by
 refine pM func152 Z (by kernel_rfl) Z<|jI<|oN (M0.bxF [eL (cL M5.c) p] Z Z Z)<|oN (M0.bxF [eL cI x.From,eL (cL cI) x.Order] Z Z Z)<|oN (M0.bxF [St name] Z Z Z)<|oN as'<|jA<|jI<|oN (lf (eL (cL M5.c) p) Mw Z)<|oC h (λ_=>p9 _) Z Z Z Z λv1 _ h=>oA (EvA.al MO Z Z)<|oV (sr [eL M7.c v1] My Z Z Z Z)<|TO.cut (e0:=ak [(7,.fp ((cL M7.c) v1) 0),(5,.fp (cS name) 0),(4,.fp (M6.c x) 0),(3,.fp ((cL<|cL M5.c) p) 0)]) (H0:=[]) (qZ Z .nil<|aj (.fz<|Fz.fpL (ver:=0) (s:=1) (ty:=57) (rows:=[[eL M7.c v1]]) Z Z Z<|.cons (qC Z) .nil)<|aj (.fz<|qC Z)<|aj (.fz<|qC Z)<|aj (.fz<|qC Z) bg)<|jA<|jI<|oN (lf (eL M7.c v1) My Z) ?_;refine oN (M0.lenL LC Z)<|oN (M0.mkfn [.fp ((cL<|cL M5.c) p) 0,.fp (M6.c x) 0,.fp ((cL M7.c) v1) 0,.fp (cS name) 0] Z Z)<|oC h (λ_=>nN _ _ _ _ _) Z Z Z Z λv2 _ h=>oN as'<|jA<|jK ?_
 cases h
 exact HQ Z Z Z
theorem vB (x:Int) (a1:LI) {q} (h:mU x a1=Nn q):aD Nr 236 [I x,.fp ((cL cI) a1) 0] (Bo q):=by
 refine pM func236 Z (by kernel_rfl) Z<|go h λ_ h=>?_;refine TO.jB h 6 (λs1=>[(12,Bo s1)]) (λs1=>[]) (λs1 q2 h js1=>?_) (λs1 q2 h js1=>?_) λs1 h=>?_
 ·exact gj h js1
 ·exact gj h js1
 exact gz h
theorem gT (s:LI) (f0:LI) {q} (h:bz s f0=Nn q):aD Nr 190 [eL cI s,.fn (.func 236) [.fp ((cL cI) f0) 0]] (I q):=by
 refine pM func190 Z (by kernel_rfl) Z<|go h λ_ h=>?_;obtain ⟨Ks1,es1,ws1,h,ks1⟩:=Bq h;refine T.join (S:=Unit) (G:=Unit) (λs1=>Ks1 s1=Nn q) (λs1 gh=>True) (λs1 gh=>[]) (λs1 gh=>[]) (λs1 gh h hg=>?_) ?_
 ·clear ks1;subst es1;exact gz h
 refine go h λ_ h=>?_;refine tU h (λs4=>[(8,I s4),(7,I (s.length:Int)),(0,eL cI s),(1,.fn (.func 236) [.fp ((cL cI) f0) 0])]) (λs4=>[]) λs4 ws4 h=>?_;refine go h λ_ h=>?_;refine jH ?_;refine jN Z h (λq6 h=>?_) λq6 h=>?_
 ·refine go h λ_ h=>?_;refine gs h λ_ h=>?_;refine oC h (λ_=>vB _ _) Z Z Z Z λv8 _ h=>?_;refine gi h (λ_ q9 h=>?_) λ_ q9 h=>?_
  ·refine go h λ_ h=>?_;refine lX h λh=>?_;obtain rfl:=M4 h;replace h:=congrArg Nn (show _=_ from ks1);exact gz h
  refine go h λ_ h=>?_;exact lE h Nh
 refine jM<|lX h λh=>?_
 cases h
 exact ⟨(),(),ks1,trivial,Nh⟩
theorem fG (s:LI) (f0:LI) {q} (h:bf s f0=Nn q):aD Nr 235 [eL cI s,.fn (.func 236) [.fp ((cL cI) f0) 0]] (Bo q):=by
 refine pM func235 Z (by kernel_rfl) Z<|go h λ_ h=>?_;refine oC h (λ_=>gT _ _) Z Z Z Z λv1 _ h=>?_;exact gz h
theorem dV (r_:LI) {q} (h:bZ r_=Nn q):aD Nr 169 [eL cI r_] (Bo q):=by
 refine pM func169 Z (by kernel_rfl) Z<|jI<|oN (M0.bxF [eL cI r_] Z Z Z)<|oN as'<|jA<|jI<|oN (lf (eL cI r_) Kj Z)<|oN (M0.lenL zy Z)<|oN (M0.ile Z Z)<|oN mv ?_;refine TO.jB h 5 (λs1=>[(11,Bo s1)]) (λs1=>[]) (λs1 q2 h js1=>?_) (λs1 q2 h js1=>?_) λs1 h=>?_
 ·refine gN Z q2 (lf (eL cI r_) Kj Z)<|gN Z q2 (M0.mkfn [.fp ((cL cI) r_) 0] Z Z)<|jB h λv3 cv3 h=>gN Z q2 (M0.call Z Z Z (fG r_ r_ cv3) Z)<|gN Z q2 (M0.not Z)<|oN (M0.pickT Z q2 (Bo<|!v3) Z) ?_
  cases h
  exact js1 _ _<|kw Z Z
 ·refine gS Z q2<|gS Z q2<|gS Z q2<|gS Z q2<|oN (M0.pickF Z q2 (Bo Nl) Z) ?_
  cases h
  exact js1 _ _<|kw Z Z
 refine oN as'<|jA<|jK ?_
 cases h
 exact HQ Z Z Z
theorem kE (r_:LI) (i:Int) (k_:Int) {q} (h:fJ r_ i k_=Nn q):aD Nr 219 [eL cI r_,I i,I k_] (Bo q):=by
 refine pM func219 Z (by kernel_rfl) Z ?_;exact gz h
theorem ug (i:Int) (k_:Int) (a2:LI) {q} (h:kJ i k_ a2=Nn q):aD Nr 218 [I i,I k_,.fp ((cL cI) a2) 0] (Bo q):=by
 refine pM func218 Z (by kernel_rfl) Z<|go h λ_ h=>?_;refine oC h (λ_=>kE _ _ _) Z Z Z Z λv1 _ h=>?_;exact gz h
theorem kW (n:Int) (is0:LI) {q} (h:fw n is0=Nn q):aD Nr 215 [I n,.fn (.func 218) [.fp ((cL cI) is0) 0]] (eL cI q):=by
 refine pM func215 Z (by kernel_rfl) Z<|go h λ_ h=>?_;refine jD h λg1 h=>oA (EvA.mkN (c:=cI) (Nj:Int) zy Z Z g1 Z Z Z)<|go h λ_ h=>?_;refine tJ h (λs2 gh=>[(5,hS Nl 0 gh 1 s2.length)]) (λs2 gh=>[bE Nl gh 1 3 (s2.map cI)]) (λs2 u27 h=>?_) λs2 h=>?_
 ·exact gf h
 refine go h λ_ h=>?_;refine tT h 0 (λs6 gh=>[(11,I s6.2),(10,I n),(5,hS Nl 0 gh 1 s6.1.length),(0,I n),(1,.fn (.func 218) [.fp ((cL cI) is0) 0])]) (λs6 gh=>[bE Nl gh 1 3 (s6.1.map cI)]) λs6 u8 ws6 h=>?_;refine go h λ_ h=>?_;refine jH ?_;refine jN Z h (λq9 h=>?_) λq9 h=>?_
 ·refine go h λ_ h=>?_;refine tJ h (λs10 gh=>[(11,I s6.2),(10,I n),(5,hS Nl 0 gh 1 s10.length),(0,I n),(1,.fn (.func 218) [.fp ((cL cI) is0) 0])]) (λs10 gh=>[bE Nl gh 1 3 (s10.map cI)]) (λs10 u25 h=>?_) λs10 h=>?_
  ·refine go h λ_ h=>?_;obtain rfl:=M4 h;exact ⟨(s10,(s6.2+V)),u25,Z,trivial,Nh⟩
  refine go h λ_ h=>?_;refine tT h u8 (λs14 gh=>[(15,I s14.2),(14,I n),(6,I s6.2),(11,I s6.2),(10,I n),(5,hS Nl 0 gh 1 s14.1.length),(0,I n),(1,.fn (.func 218) [.fp ((cL cI) is0) 0])]) (λs14 gh=>[bE Nl gh 1 3 (s14.1.map cI)]) λs14 u16 ws14 h=>?_;refine go h λ_ h=>?_;refine jH ?_;refine jN Z h (λq17 h=>?_) λq17 h=>?_
  ·refine go h λ_ h=>?_;refine tJ h (λs18 gh=>[(15,I s14.2),(14,I n),(6,I s6.2),(11,I s6.2),(10,I n),(5,hS Nl 0 gh 1 s18.length),(0,I n),(1,.fn (.func 218) [.fp ((cL cI) is0) 0])]) (λs18 gh=>[bE Nl gh 1 3 (s18.map cI)]) (λs18 u23 h=>?_) λs18 h=>?_
   ·refine go h λ_ h=>?_;obtain rfl:=M4 h;exact ⟨(s18,(s14.2+V)),u23,Z,trivial,Nh⟩
   refine go h λ_ h=>?_;refine oC h (λ_=>ug _ _ _) Z Z Z Z λv19 _ h=>?_;refine gi h (λ_ q20 h=>?_) λ_ q20 h=>?_
   ·refine jP (dG [dF,dF,dF,([0],Nl),dF,dF,dF,dF,([0],Nk)]) (by kernel_rfl) (by kernel_rfl)<|go h λf h=>?_;obtain ⟨_,g21,_⟩:=f;refine fV 0 [] Z Z (λG hG=>EvA.stO (g:=false) (l:=s14.1) (cs:=[I (bOr .i64 (J s14.1 s6.2)<|Fb .i64 V s14.2)]) (bOr .i64 (J s14.1 s6.2)<|Fb .i64 V s14.2) ty3 Z Z (hG.a0 Z) nofun (bH Z g21) Z Z Z)<|go h λ_ h=>?_;obtain rfl:=M4 h;exact ⟨u16,trivial,zO Z<|MZ Z<|MZ Z<|MZ Z<|MZ Z<|MZ Z<|MZ (congrArg (hS Nl 0 u16 1) (by simp:s14.1.length=(s14.1.set s6.2.toNat<|bOr .i64 (J s14.1 s6.2)<|Fb .i64 (1:Int) s14.2).length))<|MZ Z<|MZ Z wkN⟩
   refine go h λ_ h=>?_
   cases h
   exact ⟨u16,trivial,Nh⟩
  refine jM<|lX h λh=>?_
  cases h
  exact ⟨u16,trivial,Nh⟩
 refine jM<|lX h λh=>?_
 cases h
 exact ⟨u8,trivial,Nh⟩
theorem vC (r_:LI) {q} (h:jp r_=Nn q):aD Nr 153 [eL cI r_] (eL cI q):=by
 refine pM func153 Z (by kernel_rfl) Z<|jI<|oN (M0.bxF [eL cI r_] Z Z Z)<|oN as'<|jA<|jH<|jI<|oN (lf (eL cI r_) Kj Z)<|oC h (λ_=>dV _) Z Z Z Z λv1 _ h=>oN (M0.not Z)<|jA ?_;refine jN Z h (λq2 h=>?_) λq2 h=>?_
 ·refine jI<|oN as'<|jA<|jK ?_;obtain rfl:=M4 h
  repeat (first|refine lD ?_|refine lF ?_)
  exact jQ (vs:=[.nil]) (.cons (.tmp Z) .nil) .nil0
 refine jG<|jI<|oN (lf (eL cI r_) Kj Z)<|oN (M0.lenL zy Z)<|oN (M0.mkfn [.fp ((cL cI) r_) 0] Z Z)<|oC h (λ_=>kW _ _) Z Z Z Z λv3 _ h=>oN as'<|jA<|jK ?_
 cases h
 exact HQ Z Z Z
theorem qh (r_:LI) {q} (h:gb r_=Nn q):aD Nr 154 [eL cI r_] (eL cI q):=by
 refine pM func154 Z (by kernel_rfl) Z<|go h λ_ h=>?_;refine gs h λ_ h=>?_;refine oC h (λ_=>dV _) Z Z Z Z λv1 _ h=>?_;refine gi h (λ_ q2 h=>?_) λ_ q2 h=>?_
 ·refine go h λ_ h=>?_;obtain rfl:=M4 h
  repeat (first|refine lD ?_|refine lF ?_)
  exact jQ (vs:=[.nil]) (.cons (.tmp Z) .nil) .nil0
 refine go h λ_ h=>?_;refine jB h λv3 cv3 h=>?_;refine oG Z Z Z ((dx r_ cv3).own Z (pG qD) nB 0 Z) λg4 v5 n6=>?_;refine go h λ_ h=>?_;refine T.jF (G:=(Bool×Nat)) h (λs7 gh=>(gh.1=Nk->s7=[])) (λs7 gh=>[(3,hS gh.1 0 gh.2 1 s7.length)]) (λs7 gh=>[bE gh.1 gh.2 1 3 (s7.map cI)]) (λs7 gh h n49=>?_) λs7 h=>?_
 ·obtain ⟨b48,u47⟩:=gh;exact gf h
 refine go h λ_ h=>?_;refine tL h (g4,v5) (λs16 gh=>(gh.1=Nk->s16.1=[])) (λs16 gh=>[(13,I s16.2),(12,I (v3.length:Int)),(3,hS gh.1 0 gh.2 1 s16.1.length)]) (λs16 gh=>[bE gh.1 gh.2 1 3 (s16.1.map cI)]) (λx=>List.eq_nil_of_length_eq_zero<|n6 x) λs16 gh ws16 h n20=>?_;obtain ⟨b19,u18⟩:=gh;refine go h λ_ h=>?_;refine jH ?_;refine jN Z h (λq21 h=>?_) λq21 h=>?_
 ·refine go h λ_ h=>?_;refine T.jF (G:=(Bool×Nat)) h (λs22 gh=>(gh.1=Nk->s22=[])) (λs22 gh=>[(13,I s16.2),(12,I (v3.length:Int)),(3,hS gh.1 0 gh.2 1 s22.length)]) (λs22 gh=>[bE gh.1 gh.2 1 3 (s22.map cI)]) (λs22 gh h n45=>?_) λs22 h=>?_
  ·obtain ⟨b44,u43⟩:=gh;refine go h λ_ h=>?_;obtain rfl:=M4 h;exact ⟨(s22,(s16.2+V)),(b44,u43),Z,n45,Nh⟩
  refine go h λ_ h=>?_;refine tL h (b19,u18) (λs28 gh=>(gh.1=Nk->s28.1=[])) (λs28 gh=>[(18,I s28.2),(17,I (s16.1.length:Int)),(4,I s16.2),(13,I s16.2),(12,I (v3.length:Int)),(3,hS gh.1 0 gh.2 1 s28.1.length)]) (λs28 gh=>[bE gh.1 gh.2 1 3 (s28.1.map cI)]) n20 λs28 gh ws28 h n32=>?_;obtain ⟨b31,u30⟩:=gh;refine go h λ_ h=>?_;refine jH ?_;refine jN Z h (λq33 h=>?_) λq33 h=>?_
  ·refine go h λ_ h=>?_;refine T.jF (G:=(Bool×Nat)) h (λs34 gh=>(gh.1=Nk->s34=[])) (λs34 gh=>[(18,I s28.2),(17,I (s16.1.length:Int)),(4,I s16.2),(13,I s16.2),(12,I (v3.length:Int)),(3,hS gh.1 0 gh.2 1 s34.length)]) (λs34 gh=>[bE gh.1 gh.2 1 3 (s34.map cI)]) (λs34 gh h n41=>?_) λs34 h=>?_
   ·obtain ⟨b40,u39⟩:=gh;refine go h λ_ h=>?_;obtain rfl:=M4 h;exact ⟨(s34,(s28.2+V)),(b40,u39),Z,n41,Nh⟩
   refine go h λ_ h=>?_;refine jB h λv35 cv35 h=>oA (EvA.callT Z Z (kE s28.1 s28.2 s16.2 cv35) (.cons (Fz.own (g:=b31) (ver:=u30) (l:=s28.1) Z Z Z n32 qD)<|.cons (qC Z)<|.cons (qC Z) .nil) Z) ?_;refine gi h (λ_ q36 h=>?_) λ_ q36 h=>?_
   ·refine T.drawH (dG [dF,dF,dF,([0],Nl),dF,dF,dF,([0],Nl),dF,dF,([0],Nk)]) (by kernel_rfl) (by kernel_rfl)<|go h λ_ h=>?_;refine jD h λg37 h=>?_;obtain rfl:=Ab n32 rfl g37;refine go h λ_ h=>?_;refine fV 0 [] Z Z (λG hG=>EvA.stO (g:=false) (l:=s28.1) (cs:=[I (bOr .i64 (J s28.1 s28.2)<|J s28.1 s16.2)]) (bOr .i64 (J s28.1 s28.2)<|J s28.1 s16.2) ty3 Z Z (hG.a0 Z) nofun (bH Z g37) Z Z Z)<|go h λ_ h=>?_;obtain rfl:=M4 h;exact ⟨(Nl,u30),nofun,zO Z<|MZ Z<|MZ Z<|MZ Z<|MZ Z<|MZ Z<|MZ (congrArg (hS Nl 0 u30 1) (by simp:s28.1.length=(s28.1.set s28.2.toNat<|bOr .i64 (J s28.1 s28.2)<|J s28.1 s16.2).length)) wkN⟩
   refine go h λ_ h=>?_
   cases h
   exact ⟨(b31,u30),n32,Nh⟩
  refine jM<|lX h λh=>?_
  cases h
  exact ⟨(b31,u30),n32,Nh⟩
 refine jM<|lX h λh=>?_
 cases h
 exact ⟨(b19,u18),n20,Nh⟩
theorem kF (a:LI) (b:LI) {q} (h:dU a b=Nn q):aD Nr 224 [eL cI a,eL cI b] (Bo q):=by
 refine pM func224 Z (by kernel_rfl) Z<|go h λ_ h=>?_;refine TO.jB h 3 (λs1=>[(13,Bo s1),(1,eL cI b)]) (λs1=>[]) (λs1 q2 h js1=>?_) (λs1 q2 h js1=>?_) λs1 h=>?_
 ·refine go h λ_ h=>?_;refine jB h λv3 cv3 h=>gN Z q2 (M0.call Z Z Z (dV a cv3) Z) ?_;exact gj h js1
 ·exact gj h js1
 refine go h λ_ h=>?_;refine TO.jB h 3 (λs4=>[(17,Bo s4)]) (λs4=>[]) (λs4 q5 h js4=>?_) (λs4 q5 h js4=>?_) λs4 h=>?_
 ·refine go h λ_ h=>?_;refine jB h λv6 cv6 h=>gN Z q5 (M0.call Z Z Z (dV b cv6) Z) ?_;exact gj h js4
 ·exact gj h js4
 exact gz h
theorem vD (x:Int) (y:Int) {q} (h:mV x y=Nn q):aD Nr 221 [I x,I y] (I q):=by
 refine pM func221 Z (by kernel_rfl) Z ?_;exact gz h
theorem lw (a:LI) (b:LI) {q} (h:fO a b=Nn q):aD Nr 220 [eL cI a,eL cI b,.fn (.func 221) []] (eL cI q):=by
 refine pM func220 Z (by kernel_rfl) Z<|go h λ_ h=>?_;refine gs h λ_ h=>?_;refine oC h (λ_=>kF _ _) Z Z Z Z λv1 _ h=>?_;refine gi h (λ_ q2 h=>?_) λ_ q2 h=>?_
 ·refine go h λ_ h=>?_;obtain rfl:=M4 h
  repeat (first|refine lD ?_|refine lF ?_)
  exact jQ (vs:=[.nil]) (.cons (.tmp Z) .nil) .nil0
 refine go h λ_ h=>?_;refine jD h λg3 h=>oA (EvA.mkN (c:=cI) (Nj:Int) zy Z Z g3 Z Z Z)<|go h λ_ h=>?_;refine tJ h (λs4 gh=>[(7,hS Nl 0 gh 1 s4.length)]) (λs4 gh=>[bE Nl gh 1 3 (s4.map cI)]) (λs4 u17 h=>?_) λs4 h=>?_
 ·exact gf h
 refine go h λ_ h=>?_;refine tT h 0 (λs8 gh=>[(18,I s8.2),(17,I (a.length:Int)),(7,hS Nl 0 gh 1 s8.1.length),(0,eL cI a),(1,eL cI b),(2,.fn (.func 221) [])]) (λs8 gh=>[bE Nl gh 1 3 (s8.1.map cI)]) λs8 u10 ws8 h=>?_;refine go h λ_ h=>?_;refine jH ?_;refine jN Z h (λq11 h=>?_) λq11 h=>?_
 ·refine go h λ_ h=>?_;refine gs h λ_ h=>?_;refine jP (dG [dF,dF,dF,dF,dF,dF,dF,dF,dF,dF,dF,dF,dF,([0],Nk)]) (by kernel_rfl) (by kernel_rfl)<|go h λ_ h=>?_;refine fC h (λ_=>vD _ _) Z Z Z Z Z λv14 _ h=>(go h λf h=>?_);obtain ⟨g15,_⟩:=f;refine fV 0 [] Z Z (λG hG=>EvA.stO (g:=false) (l:=s8.1) (cs:=[I v14]) v14 ty3 Z Z (hG.a0 Z) nofun (bH Z g15) Z Z Z)<|go h λ_ h=>?_;obtain rfl:=M4 h;exact ⟨((s8.1.set s8.2.toNat v14),(s8.2+(1:Int))),u10,Z,trivial,zO Z<|MZ Z<|MZ Z<|MZ (congrArg (hS Nl 0 u10 1) (by simp:s8.1.length=(s8.1.set s8.2.toNat v14).length))<|MZ Z<|MZ Z<|MZ Z wkN⟩
 refine jM<|lX h λh=>?_
 cases h
 exact ⟨u10,trivial,Nh⟩
theorem xB (a:LI) (b:LI) {q} (h:lQ a b=Nn q):aD Nr 155 [eL cI a,eL cI b] (eL cI q):=by
 refine pM func155 Z (by kernel_rfl) Z<|go h λ_ h=>?_;refine oC h (λ_=>lw _ _) Z Z Z Z λv1 _ h=>?_;exact gz h
theorem wF (x:Int) (y:Int) {q} (h:nT x y=Nn q):aD Nr 222 [I x,I y] (I q):=by
 refine pM func222 Z (by kernel_rfl) Z ?_;exact gz h
theorem mF (a:LI) (b:LI) {q} (h:gm a b=Nn q):aD Nr 220 [eL cI a,eL cI b,.fn (.func 222) []] (eL cI q):=by
 refine pM func220 Z (by kernel_rfl) Z<|go h λ_ h=>?_;refine gs h λ_ h=>?_;refine oC h (λ_=>kF _ _) Z Z Z Z λv1 _ h=>?_;refine gi h (λ_ q2 h=>?_) λ_ q2 h=>?_
 ·refine go h λ_ h=>?_;obtain rfl:=M4 h
  repeat (first|refine lD ?_|refine lF ?_)
  exact jQ (vs:=[.nil]) (.cons (.tmp Z) .nil) .nil0
 refine go h λ_ h=>?_;refine jD h λg3 h=>oA (EvA.mkN (c:=cI) (Nj:Int) zy Z Z g3 Z Z Z)<|go h λ_ h=>?_;refine tJ h (λs4 gh=>[(7,hS Nl 0 gh 1 s4.length)]) (λs4 gh=>[bE Nl gh 1 3 (s4.map cI)]) (λs4 u17 h=>?_) λs4 h=>?_
 ·exact gf h
 refine go h λ_ h=>?_;refine tT h 0 (λs8 gh=>[(18,I s8.2),(17,I (a.length:Int)),(7,hS Nl 0 gh 1 s8.1.length),(0,eL cI a),(1,eL cI b),(2,.fn (.func 222) [])]) (λs8 gh=>[bE Nl gh 1 3 (s8.1.map cI)]) λs8 u10 ws8 h=>?_;refine go h λ_ h=>?_;refine jH ?_;refine jN Z h (λq11 h=>?_) λq11 h=>?_
 ·refine go h λ_ h=>?_;refine gs h λ_ h=>?_;refine jP (dG [dF,dF,dF,dF,dF,dF,dF,dF,dF,dF,dF,dF,dF,([0],Nk)]) (by kernel_rfl) (by kernel_rfl)<|go h λ_ h=>?_;refine fC h (λ_=>wF _ _) Z Z Z Z Z λv14 _ h=>(go h λf h=>?_);obtain ⟨g15,_⟩:=f;refine fV 0 [] Z Z (λG hG=>EvA.stO (g:=false) (l:=s8.1) (cs:=[I v14]) v14 ty3 Z Z (hG.a0 Z) nofun (bH Z g15) Z Z Z)<|go h λ_ h=>?_;obtain rfl:=M4 h;exact ⟨((s8.1.set s8.2.toNat v14),(s8.2+(1:Int))),u10,Z,trivial,zO Z<|MZ Z<|MZ Z<|MZ (congrArg (hS Nl 0 u10 1) (by simp:s8.1.length=(s8.1.set s8.2.toNat v14).length))<|MZ Z<|MZ Z<|MZ Z wkN⟩
 refine jM<|lX h λh=>?_
 cases h
 exact ⟨u10,trivial,Nh⟩
theorem yj (a:LI) (b:LI) {q} (h:m9 a b=Nn q):aD Nr 156 [eL cI a,eL cI b] (eL cI q):=by
 refine pM func156 Z (by kernel_rfl) Z<|go h λ_ h=>?_;refine oC h (λ_=>mF _ _) Z Z Z Z λv1 _ h=>?_;exact gz h
theorem vE (x:Int) (y:Int) {q} (h:mW x y=Nn q):aD Nr 223 [I x,I y] (I q):=by
 refine pM func223 Z (by kernel_rfl) Z<|jI<|oN as'<|jA<|jI<|oN mv<|oN mv<|oN (M0.bandNot Z Z)<|oN as'<|jA<|jK ?_
 cases h
 exact HQ Z Z Z
theorem lC (a:LI) (b:LI) {q} (h:fP a b=Nn q):aD Nr 220 [eL cI a,eL cI b,.fn (.func 223) []] (eL cI q):=by
 refine pM func220 Z (by kernel_rfl) Z<|go h λ_ h=>?_;refine gs h λ_ h=>?_;refine oC h (λ_=>kF _ _) Z Z Z Z λv1 _ h=>?_;refine gi h (λ_ q2 h=>?_) λ_ q2 h=>?_
 ·refine go h λ_ h=>?_;obtain rfl:=M4 h
  repeat (first|refine lD ?_|refine lF ?_)
  exact jQ (vs:=[.nil]) (.cons (.tmp Z) .nil) .nil0
 refine go h λ_ h=>?_;refine jD h λg3 h=>oA (EvA.mkN (c:=cI) (Nj:Int) zy Z Z g3 Z Z Z)<|go h λ_ h=>?_;refine tJ h (λs4 gh=>[(7,hS Nl 0 gh 1 s4.length)]) (λs4 gh=>[bE Nl gh 1 3 (s4.map cI)]) (λs4 u17 h=>?_) λs4 h=>?_
 ·exact gf h
 refine go h λ_ h=>?_;refine tT h 0 (λs8 gh=>[(18,I s8.2),(17,I (a.length:Int)),(7,hS Nl 0 gh 1 s8.1.length),(0,eL cI a),(1,eL cI b),(2,.fn (.func 223) [])]) (λs8 gh=>[bE Nl gh 1 3 (s8.1.map cI)]) λs8 u10 ws8 h=>?_;refine go h λ_ h=>?_;refine jH ?_;refine jN Z h (λq11 h=>?_) λq11 h=>?_
 ·refine go h λ_ h=>?_;refine gs h λ_ h=>?_;refine jP (dG [dF,dF,dF,dF,dF,dF,dF,dF,dF,dF,dF,dF,dF,([0],Nk)]) (by kernel_rfl) (by kernel_rfl)<|go h λ_ h=>?_;refine fC h (λ_=>vE _ _) Z Z Z Z Z λv14 _ h=>(go h λf h=>?_);obtain ⟨g15,_⟩:=f;refine fV 0 [] Z Z (λG hG=>EvA.stO (g:=false) (l:=s8.1) (cs:=[I v14]) v14 ty3 Z Z (hG.a0 Z) nofun (bH Z g15) Z Z Z)<|go h λ_ h=>?_;obtain rfl:=M4 h;exact ⟨((s8.1.set s8.2.toNat v14),(s8.2+(1:Int))),u10,Z,trivial,zO Z<|MZ Z<|MZ Z<|MZ (congrArg (hS Nl 0 u10 1) (by simp:s8.1.length=(s8.1.set s8.2.toNat v14).length))<|MZ Z<|MZ Z<|MZ Z wkN⟩
 refine jM<|lX h λh=>?_
 cases h
 exact ⟨u10,trivial,Nh⟩
theorem xC (a:LI) (b:LI) {q} (h:lS a b=Nn q):aD Nr 157 [eL cI a,eL cI b] (eL cI q):=by
 refine pM func157 Z (by kernel_rfl) Z<|go h λ_ h=>?_;refine oC h (λ_=>lC _ _) Z Z Z Z λv1 _ h=>?_;exact gz h
theorem vF (a:LI) (b:LI) {q} (h:jq a b=Nn q):aD Nr 158 [eL cI a,eL cI b] (eL cI q):=by
 refine pM func158 Z (by kernel_rfl) Z<|go h λ_ h=>?_;refine gs h λ_ h=>?_;refine oC h (λ_=>kF _ _) Z Z Z Z λv1 _ h=>?_;refine gi h (λ_ q2 h=>?_) λ_ q2 h=>?_
 ·refine go h λ_ h=>?_;obtain rfl:=M4 h
  repeat (first|refine lD ?_|refine lF ?_)
  exact jQ (vs:=[.nil]) (.cons (.tmp Z) .nil) .nil0
 refine go h λ_ h=>?_;refine jD h λg3 h=>oA (EvA.mkN (c:=cI) (Nj:Int) zy Z Z g3 Z Z Z)<|go h λ_ h=>?_;refine tJ h (λs4 gh=>[(5,hS Nl 0 gh 1 s4.length)]) (λs4 gh=>[bE Nl gh 1 3 (s4.map cI)]) (λs4 u29 h=>?_) λs4 h=>?_
 ·exact gf h
 refine go h λ_ h=>?_;refine tT h 0 (λs8 gh=>[(17,I s8.2),(16,I (a.length:Int)),(5,hS Nl 0 gh 1 s8.1.length),(0,eL cI a),(1,eL cI b)]) (λs8 gh=>[bE Nl gh 1 3 (s8.1.map cI)]) λs8 u10 ws8 h=>?_;refine go h λ_ h=>?_;refine jH ?_;refine jN Z h (λq11 h=>?_) λq11 h=>?_
 ·refine go h λ_ h=>?_;refine tJ h (λs12 gh=>[(17,I s8.2),(16,I (a.length:Int)),(5,hS Nl 0 gh 1 s12.length),(0,eL cI a),(1,eL cI b)]) (λs12 gh=>[bE Nl gh 1 3 (s12.map cI)]) (λs12 u27 h=>?_) λs12 h=>?_
  ·refine go h λ_ h=>?_;obtain rfl:=M4 h;exact ⟨(s12,(s8.2+V)),u27,Z,trivial,Nh⟩
  refine go h λ_ h=>?_;refine tT h u10 (λs16 gh=>[(22,I s16.2),(21,I (b.length:Int)),(6,I s8.2),(17,I s8.2),(16,I (a.length:Int)),(5,hS Nl 0 gh 1 s16.1.length),(0,eL cI a),(1,eL cI b)]) (λs16 gh=>[bE Nl gh 1 3 (s16.1.map cI)]) λs16 u18 ws16 h=>?_;refine go h λ_ h=>?_;refine jH ?_;refine jN Z h (λq19 h=>?_) λq19 h=>?_
  ·refine go h λ_ h=>?_;refine tJ h (λs20 gh=>[(22,I s16.2),(21,I (b.length:Int)),(6,I s8.2),(17,I s8.2),(16,I (a.length:Int)),(5,hS Nl 0 gh 1 s20.length),(0,eL cI a),(1,eL cI b)]) (λs20 gh=>[bE Nl gh 1 3 (s20.map cI)]) (λs20 u25 h=>?_) λs20 h=>?_
   ·refine go h λ_ h=>?_;obtain rfl:=M4 h;exact ⟨(s20,(s16.2+V)),u25,Z,trivial,Nh⟩
   refine go h λ_ h=>?_;refine oC h (λ_=>kE _ _ _) Z Z Z Z λv21 _ h=>?_;refine gi h (λ_ q22 h=>?_) λ_ q22 h=>?_
   ·refine jP (dG [dF,dF,dF,([0],Nl),dF,dF,dF,dF,dF,dF,([0],Nk)]) (by kernel_rfl) (by kernel_rfl)<|go h λf h=>?_;obtain ⟨_,g23,_⟩:=f;refine fV 0 [] Z Z (λG hG=>EvA.stO (g:=false) (l:=s16.1) (cs:=[I (bOr .i64 (J s16.1 s8.2)<|J b s16.2)]) (bOr .i64 (J s16.1 s8.2)<|J b s16.2) ty3 Z Z (hG.a0 Z) nofun (bH Z g23) Z Z Z)<|go h λ_ h=>?_;obtain rfl:=M4 h;exact ⟨u18,trivial,zO Z<|MZ Z<|MZ Z<|MZ Z<|MZ Z<|MZ Z<|MZ (congrArg (hS Nl 0 u18 1) (by simp:s16.1.length=(s16.1.set s8.2.toNat<|bOr .i64 (J s16.1 s8.2)<|J b s16.2).length))<|MZ Z<|MZ Z wkN⟩
   refine go h λ_ h=>?_
   cases h
   exact ⟨u18,trivial,Nh⟩
  refine jM<|lX h λh=>?_
  cases h
  exact ⟨u18,trivial,Nh⟩
 refine jM<|lX h λh=>?_
 cases h
 exact ⟨u10,trivial,Nh⟩
theorem xD:∀ (nf:Nat) (p:List<|List M5) (x:M6) (e_:ae) {q} (h:cG nf p x e_=Nn q),aD Nr 93 [eL (cL M5.c) p,.agg (M6.c x),.agg (ae.c e_)] (eL cI q):=by
 intro nf
 induction nf with
 | zero=>intros;rename_i h;cases h
 | succ nf ih=>
  intro p x e_ q h;replace h:cF (cG nf) p x e_=Nn q:=h;refine pM func93 Z (by kernel_rfl) Z<|go h λ_ h=>?_;refine eF Z Z Z<|eF Z Z Z ?_;refine go h λ_ h=>?_;refine Ng h (λ_ q1 h=>?_) λ_ q1 h=>?_
  ·refine go h λ_ h=>?_;refine oC h (λ_=>zT _ _ _) Z Z Z Z λv2 _ h=>?_;exact gz h
  refine go h λ_ h=>?_;refine jH<|T.drawP (by kernel_rfl) (by kernel_rfl) ?_;refine go h λ_ h=>?_;refine jD h λg3 h=>fN Z (M0.res (M0.ixL Bj Z Z g3 ZTE.len) (r' := .fp (ae.c (J e_.Kids U).out) 0) λ_ _ hr=>wX (ZTE.out_c _) hr)<|go h λ_ h=>?_;refine fC h (λ_=>ih _ _ _) Z Z Z Z Z λv4 _ h=>(go h λ_ h=>?_);refine Ng h (λ_ q5 h=>?_) λ_ q5 h=>?_
  ·refine go h λ_ h=>?_;refine oC h (λ_=>vC _) Z Z Z Z λv6 _ h=>?_;exact gz h
  refine gi h (λ_ q7 h=>?_) λ_ q7 h=>?_
  ·refine go h λ_ h=>?_;refine oC h (λ_=>qh _) Z Z Z Z λv8 _ h=>?_;exact gz h
  refine go h λ_ h=>?_;refine jH<|T.drawP (by kernel_rfl) (by kernel_rfl) ?_;refine go h λ_ h=>?_;refine jD h λg9 h=>fN Z (M0.res (M0.ixL Bj Z Z g9 ZTE.len) (r' := .fp (ae.c (J e_.Kids V).out) 0) λ_ _ hr=>wX (ZTE.out_c _) hr)<|go h λ_ h=>?_;refine fC h (λ_=>ih _ _ _) Z Z Z Z Z λv10 _ h=>(go h λ_ h=>?_);refine Ng h (λ_ q11 h=>?_) λ_ q11 h=>?_
  ·refine go h λ_ h=>?_;refine oC h (λ_=>xB _ _) Z Z Z Z λv12 _ h=>?_;exact gz h
  refine gi h (λ_ q13 h=>?_) λ_ q13 h=>?_
  ·refine go h λ_ h=>?_;refine oC h (λ_=>yj _ _) Z Z Z Z λv14 _ h=>?_;exact gz h
  refine gi h (λ_ q15 h=>?_) λ_ q15 h=>?_
  ·refine go h λ_ h=>?_;refine oC h (λ_=>xC _ _) Z Z Z Z λv16 _ h=>?_;exact gz h
  refine go h λ_ h=>?_;refine oC h (λ_=>vF _ _) Z Z Z Z λv17 _ h=>?_;exact gz h
theorem yl (p:List<|List M5) (x:M6) (e_:ae) {q} (h:qK p x e_=Nn q):aD Nr 93 [eL (cL M5.c) p,.agg (M6.c x),.agg (ae.c e_)] (eL cI q):=by
 obtain ⟨nf,h⟩:=tz h;exact xD nf p x e_ h
theorem mQ (r_:LI) {q} (h:dR r_=Nn q):aD Nr 160 [eL cI r_] (Bo q):=by
 refine pM func160 Z (by kernel_rfl) Z<|go h λ_ h=>?_;obtain ⟨Ks1,es1,ws1,h,ks1⟩:=Bq h;refine T.join (S:=Unit) (G:=Unit) (λs1=>Ks1 s1=Nn q) (λs1 gh=>True) (λs1 gh=>[]) (λs1 gh=>[]) (λs1 gh h hg=>?_) ?_
 ·clear ks1;subst es1;exact gz h
 refine go h λ_ h=>?_;refine tU h (λs4=>[(6,I s4),(5,I (r_.length:Int)),(0,eL cI r_)]) (λs4=>[]) λs4 ws4 h=>?_;refine go h λ_ h=>?_;refine jH ?_;refine jN Z h (λq6 h=>?_) λq6 h=>?_
 ·refine go h λ_ h=>?_;refine gs h λ_ h=>?_;refine oC h (λ_=>kE _ _ _) Z Z Z Z λv7 _ h=>?_;refine gi h (λ_ q8 h=>?_) λ_ q8 h=>?_
  ·refine go h λ_ h=>?_;refine lX h λh=>?_;obtain rfl:=M4 h;replace h:=congrArg Nn (show _=_ from ks1);exact gz h
  refine go h λ_ h=>?_;exact lE h Nh
 refine jM<|lX h λh=>?_
 cases h
 exact ⟨(),(),ks1,trivial,Nh⟩
theorem vG (r_:LI) {q} (h:jr r_=Nn q):aD Nr 159 [eL cI r_] (Bo q):=by
 refine pM func159 Z (by kernel_rfl) Z<|go h λ_ h=>?_;refine oC h (λ_=>dV _) Z Z Z Z λv1 _ h=>(go h λ_ h=>?_);refine TO.jB h 4 (λs2=>[(9,Bo s2)]) (λs2=>[]) (λs2 q3 h js2=>?_) (λs2 q3 h js2=>?_) λs2 h=>?_
 ·refine go h λ_ h=>?_;refine jB h λv4 cv4 h=>gN Z q3 (M0.call Z Z Z (qh r_ cv4) Z)<|jB h λv5 cv5 h=>gN Z q3 (M0.call Z Z Z (mQ v4 cv5) Z) ?_;exact gj h js2
 ·exact gj h js2
 exact gz h
theorem qU (x:Int) {q} (h:ib x=Nn q):aD Nr 265 [.v (.int .u64 x)] (I q):=by
 refine pM func265 Z (by kernel_rfl) Z<|jI<|oN as'<|jA<|jI<|oN mv<|jD h λg1 h=>oN (M0.shr Z Z g1)<|oN (M0.band Z Z)<|oN mv<|oN (M0.band Z Z)<|jW h λg2 h=>oN (M0.add Z Z g2)<|oN as'<|jA<|jI ?_;refine oN mv<|jD h λg3 h=>oN (M0.shr Z Z g3)<|oN (M0.band Z Z)<|oN mv<|oN (M0.band Z Z)<|jW h λg4 h=>oN (M0.add Z Z g4)<|oN as'<|jA<|jI<|oN mv<|jD h λg5 h=>oN (M0.shr Z Z g5)<|oN mv<|jW h λg6 h=>?_;refine jB h λw7 ew7 h=>?_;replace ew7:=osi ew7;refine oN (M0.res (M0.add Z Z g6) (r' := .v<|.int .u64 w7) λ_ _ hr=>by rw [<- ew7];exact hr)<|oN (M0.band Z Z)<|oN as'<|jA<|jH<|T.clean (H0:=[]) (e0:=ak [(0,.v<|.int .u64<|iC .u64 w7 (1085102592571150095:Int))]) Z (MZ Z wkN)<|jC<|oN mv<|oN mv<|jD h λg8 h=>oN (M0.shr Z Z g8)<|jW h λg9 h=>oN (M0.add Z Z g9)<|oN as'<|jA<|jI ?_;refine oN mv<|oN mv<|jD h λg10 h=>oN (M0.shr Z Z g10)<|jW h λg11 h=>oN (M0.add Z Z g11)<|oN as'<|jA<|jI<|oN mv<|oN mv<|jD h λg12 h=>oN (M0.shr Z Z g12)<|jW h λg13 h=>oN (M0.add Z Z g13)<|oN as' ?_;refine jA<|jI<|oN mv<|jW h λg14 h=>oN (M0.iconv Mh.und Tryz.underlying3 Z g14)<|oN (M0.band Z Z)<|oN as'<|jA<|jK ?_
 cases h
 exact HQ Z Z Z
theorem sD (x:Int) {q} (h:fB x=Nn q):aD Nr 225 [.v (.int .u64 x)] (I q):=by
 refine pM func225 Z (by kernel_rfl) Z<|go h λ_ h=>?_;refine jH ?_;refine T.cond Z (λq=>absurd (q.symm.trans Z)<|by decide) λ_=>?_;refine go h λ_ h=>?_;refine oC h (λ_=>qU _) Z Z Z Z λv1 _ h=>?_;exact gz h
theorem xE (r_:LI) {q} (h:lV r_=Nn q):aD Nr 161 [eL cI r_] (I q):=by
 refine pM func161 Z (by kernel_rfl) Z<|go h λ_ h=>?_;refine gs h λ_ h=>?_;refine oC h (λ_=>dV _) Z Z Z Z λv1 _ h=>?_;refine gi h (λ_ q2 h=>?_) λ_ q2 h=>?_
 ·exact gz h
 refine go h λ_ h=>?_;refine T.jU h (λs3=>[(3,I s3)]) (λs3=>[]) (λs3 h=>?_) λs3 h=>?_
 ·exact gz h
 refine go h λ_ h=>?_;refine tU h (λs6=>[(11,I s6.1),(10,I (r_.length:Int)),(9,eL cI r_),(3,I s6.2)]) (λs6=>[]) λs6 ws6 h=>?_;refine go h λ_ h=>?_;refine jH ?_;refine jN Z h (λq8 h=>?_) λq8 h=>?_
 ·refine go h λ_ h=>?_;refine gs h λ_ h=>?_;refine oC h (λ_=>sD _) Z Z Z Z λv11 _ h=>(go h λ_ h=>?_);exact lE h Nh
 refine jM<|lX h λh=>?_
 cases h
 exact ⟨(),trivial,Nh⟩
theorem wG (kind:Int) (r_:LI) {q} (h:kC kind r_=Nn q):aD Nr 94 [I kind,eL cI r_] (Bo q):=by
 refine pM func94 Z (by kernel_rfl) Z<|go h λ_ h=>?_;refine Ng h (λ_ q1 h=>?_) λ_ q1 h=>?_
 ·refine go h λ_ h=>?_;refine oC h (λ_=>vG _) Z Z Z Z λv2 _ h=>?_;exact gz h
 refine gi h (λ_ q3 h=>?_) λ_ q3 h=>?_
 ·refine go h λ_ h=>?_;refine oC h (λ_=>mQ _) Z Z Z Z λv4 _ h=>?_;exact gz h
 refine go h λ_ h=>?_;refine oC h (λ_=>xE _) Z Z Z Z λv5 _ h=>?_;exact gz h
theorem vH (p:List<|List M5) (x:M6) (m:List ai) {q} (h:ju p x m=Nn q):aD Nr 39 [eL (cL M5.c) p,.agg (M6.c x),eL ai.c m] (.tup [I q.1,eL cI q.2]):=by
 refine pM func39 Z (by kernel_rfl) Z<|go h λ_ h=>?_;refine eF Z Z Z<|go h λ_ h=>?_;obtain ⟨Ks1,es1,ws1,h,ks1⟩:=Bq h;refine T.join (S:=Unit) (G:=Unit) (λs1=>Ks1 s1=Nn q) (λs1 gh=>True) (λs1 gh=>[]) (λs1 gh=>[]) (λs1 gh h hg=>?_) ?_
 ·clear ks1;subst es1;exact gf h
 refine go h λ_ h=>?_;refine tU h (λs4=>[(13,I s4),(12,I (m.length:Int)),(11,eL ai.c m),(4,.fp (M6.c x) 0),(0,eL (cL M5.c) p)]) (λs4=>[]) λs4 ws4 h=>?_;refine go h λ_ h=>?_;refine jH ?_;refine jN Z h (λq6 h=>?_) λq6 h=>?_
 ·refine go h λ_ h=>?_;refine gs h λ_ h=>?_;refine oC h (λ_=>yl _ _ _) Z Z Z Z λv8 _ h=>(go h λ_ h=>?_);refine oC h (λ_=>wG _ _) Z Z Z Z λv9 _ h=>?_;refine gi h (λ_ q10 h=>?_) λ_ q10 h=>?_
  ·refine go h λ_ h=>?_;refine lX h λh=>?_;obtain rfl:=M4 h;replace h:=congrArg Nn (show _=_ from ks1);exact gf h
  refine go h λ_ h=>?_;exact lE h Nh
 refine jM<|lX h λh=>?_
 cases h
 exact ⟨(),(),ks1,trivial,Nh⟩
theorem rG (v:aF) (t:Int) (index:Int) (reg:Int) (aI:Nat) (mR:Nat) (mJ:Nat) (gw1:Bool) (hgw1:gw1=Nk->v.values=[]) {q} (h:ez v t index reg=Nn q):bP Nr 175 [.hp 0 aI 6 0 0,I t,I index,I reg] [Nn ⟨aI,6,140,[[eL (cL M5.c) v.p,eL cI v.x.From,eL (cL cI) v.x.Order,eL M7.c v.events,hS gw1 1 mR 1 v.values.length,hS Nl 2 mJ 1 v.busy.length]]⟩,bE gw1 mR 1 3 (v.values.map cI),bE Nl mJ 1 4 (v.busy.map cB)] (Ke (I q.2) λver=>[Nn ⟨aI,6,140,[[eL (cL M5.c) q.1.p,eL cI q.1.x.From,eL (cL cI) q.1.x.Order,eL M7.c q.1.events,hS gw1 1 mR 1 v.values.length,hS Nl 2 mJ 1 q.1.busy.length]]⟩,bE gw1 mR 1 3 (v.values.map cI),bE Nl mJ 1 4 (q.1.busy.map cB)]):=by
 refine bP.mkS func175 Z (by kernel_rfl) Z (by kernel_rfl) (e0:=ak [(0,.hp 0 aI 6 0 0),(1,I t),(2,I index),(3,I reg)]) (MZ Z<|MZ Z<|MZ Z<|MZ Z wkN)<|go h λ_ h=>?_;refine T.jU h (λs1=>[(9,I s1)]) (λs1=>[Nn ⟨aI,6,140,[[eL (cL M5.c) v.p,eL cI v.x.From,eL (cL cI) v.x.Order,eL M7.c v.events,hS gw1 1 mR 1 v.values.length,hS Nl 2 mJ 1 v.busy.length]]⟩,bE gw1 mR 1 3 (v.values.map cI),bE Nl mJ 1 4 (v.busy.map cB)]) (λs1 h=>?_) λs1 h=>?_
 ·refine go h λ_ h=>?_;obtain rfl:=M4 h
  repeat (first|refine lD ?_|refine lF ?_)
  exact ⟨ak [(8,I s1)],[Nn ⟨aI,6,140,[[eL (cL M5.c) v.p,eL cI v.x.From,eL (cL cI) v.x.Order,eL M7.c v.events,hS gw1 1 mR 1 v.values.length,hS Nl 2 mJ 1 v.busy.length]]⟩,bE gw1 mR 1 3 (v.values.map cI),bE Nl mJ 1 4 (v.busy.map cB)],Nh,jQ (vs:=[I s1]) (.cons (.tmp Z) .nil) ⟨0,Z,Z⟩⟩
 refine go h λ_ h=>?_;refine tU h (λs4=>[(17,I s4.1),(16,I (v.events.length:Int)),(15,eL M7.c v.events),(9,I s4.2),(0,.hp 0 aI 6 0 0),(1,I t),(2,I index),(3,I reg)]) (λs4=>[Nn ⟨aI,6,140,[[eL (cL M5.c) v.p,eL cI v.x.From,eL (cL cI) v.x.Order,eL M7.c v.events,hS gw1 1 mR 1 v.values.length,hS Nl 2 mJ 1 v.busy.length]]⟩,bE gw1 mR 1 3 (v.values.map cI),bE Nl mJ 1 4 (v.busy.map cB)]) λs4 ws4 h=>?_;refine go h λ_ h=>?_;refine jH ?_;refine jN Z h (λq6 h=>?_) λq6 h=>?_
 ·refine go h λ_ h=>?_;refine T.jU h (λs7=>[(9,I s7),(17,I s4.1),(16,I (v.events.length:Int)),(15,eL M7.c v.events),(0,.hp 0 aI 6 0 0),(1,I t),(2,I index),(3,I reg)]) (λs7=>[Nn ⟨aI,6,140,[[eL (cL M5.c) v.p,eL cI v.x.From,eL (cL cI) v.x.Order,eL M7.c v.events,hS gw1 1 mR 1 v.values.length,hS Nl 2 mJ 1 v.busy.length]]⟩,bE gw1 mR 1 3 (v.values.map cI),bE Nl mJ 1 4 (v.busy.map cB)]) (λs7 h=>?_) λs7 h=>?_
  ·refine go h λ_ h=>?_;exact lE h Nh
  refine go h λ_ h=>?_;refine T.jU h (λs9=>[(51,Bo s9),(10,I s4.1),(17,I s4.1),(16,I (v.events.length:Int)),(15,eL M7.c v.events),(9,I s4.2),(0,.hp 0 aI 6 0 0),(1,I t),(2,I index),(3,I reg)]) (λs9=>[Nn ⟨aI,6,140,[[eL (cL M5.c) v.p,eL cI v.x.From,eL (cL cI) v.x.Order,eL M7.c v.events,hS gw1 1 mR 1 v.values.length,hS Nl 2 mJ 1 v.busy.length]]⟩,bE gw1 mR 1 3 (v.values.map cI),bE Nl mJ 1 4 (v.busy.map cB),Nn ⟨0,5,60,[(M7.c<|J v.events s4.1)]⟩]) (λs9 h=>?_) λs9 h=>?_
  ·refine jN Z h (λq15 h=>?_) λq15 h=>?_
   ·refine go h λ_ h=>?_
    cases h
    exact ⟨(),trivial,Nh⟩
   refine go h λ_ h=>?_
   cases h
   exact ⟨(),trivial,Nh⟩
  refine T.drawG (dG [dF,([3],Nl),dF,dF,dF,dF,([3],Nl),dF,dF,dF,dF,dF,([3],Nl),dF,dF,dF,dF,dF,([0],Nl),dF,dF,dF,dF,([3],Nl),dF,dF,dF,dF,dF,dF]) (by kernel_rfl) (by kernel_rfl)<|go h λ_ h=>?_;rcases Fc h with ⟨q10,h⟩ | ⟨q10,h⟩
  ·refine go h λ_ h=>?_;refine tgR Z q10 [3] Z (λG hG=>EvA.loadhp (I<|(J v.events s4.1).Index) ty3 Z (hG.a0 Z) Z Z Z Z)<|gp h λ_ h=>?_;refine go h λ_ h=>?_;rcases Fc h with ⟨q11,h⟩ | ⟨q11,h⟩
   ·refine go h λ_ h=>?_;refine tgR Z q11 [3] Z (λG hG=>EvA.loadhp (Bo<|(J v.events s4.1).Reads) ty4 Z (hG.a0 Z) Z Z Z Z)<|gp h λ_ h=>?_;refine go h λ_ h=>?_;rcases Fc h with ⟨q12,h⟩ | ⟨q12,h⟩
    ·refine go h λ_ h=>?_;refine tgR Z q12 [0] Z (λG hG=>EvA.loadhp (eL (cL M5.c) v.p) Mw Z (hG.a0 Z) Z Z Z Z)<|go h λ_ h=>?_;refine tgR Z q12 [3] Z (λG hG=>EvA.loadhp (I<|(J v.events s4.1).Index) ty3 Z (hG.a0 Z) Z Z Z Z)<|gp h λ_ h=>?_;refine go h λ_ h=>?_
     cases h
     exact ⟨(),trivial,Nh⟩
    refine gp h λ_ h=>?_;refine go h λ_ h=>?_
    cases h
    exact ⟨(),trivial,Nh⟩
   refine gp h λ_ h=>?_;refine gp h λ_ h=>?_;refine go h λ_ h=>?_
   cases h
   exact ⟨(),trivial,Nh⟩
  refine gp h λ_ h=>?_;refine gp h λ_ h=>?_;refine gp h λ_ h=>?_;refine go h λ_ h=>?_
  cases h
  exact ⟨(),trivial,Nh⟩
 refine jM<|lX h λh=>?_
 cases h
 exact ⟨(),trivial,Nh⟩
theorem sW:∀ (nf:Nat) (v:aF) (i:Int) (aI:Nat) (mR:Nat) (mJ:Nat) (gw1:Bool) (hgw1:gw1=Nk->v.values=[]) {q} (h:bI nf v i=Nn q),bP Nr 104 [.hp 0 aI 6 0 0,I i] [Nn ⟨aI,6,140,[[eL (cL M5.c) v.p,eL cI v.x.From,eL (cL cI) v.x.Order,eL M7.c v.events,hS gw1 1 mR 1 v.values.length,hS Nl 2 mJ 1 v.busy.length]]⟩,bE gw1 mR 1 3 (v.values.map cI),bE Nl mJ 1 4 (v.busy.map cB)] (Ke (.tup [I q.2.1,Bo q.2.2]) λver=>[Nn ⟨aI,6,140,[[eL (cL M5.c) q.1.p,eL cI q.1.x.From,eL (cL cI) q.1.x.Order,eL M7.c q.1.events,hS gw1 1 mR 1 v.values.length,hS Nl 2 mJ 1 q.1.busy.length]]⟩,bE gw1 mR 1 3 (v.values.map cI),bE Nl mJ 1 4 (q.1.busy.map cB)]):=by
 intro nf
 induction nf with
 | zero=>intros;rename_i h;cases h
 | succ nf ih=>
  intro v i aI mR mJ gw1 hgw1 q h;let d0:=v.events.getD i.toNat Nj;replace h:fD (bI nf) v i=Nn q:=h;refine bP.mkS func104 Z (by kernel_rfl) Z (by kernel_rfl) (e0:=ak [(0,.hp 0 aI 6 0 0),(1,I i)]) (MZ Z<|MZ Z wkN)<|go h λ_ h=>?_;refine Ng h (λ_ q2 h=>?_) λ_ q2 h=>?_
  ·refine go h λ_ h=>?_;obtain rfl:=M4 h
   repeat (first|refine lD ?_|refine lF ?_)
   exact ⟨ak [(4,I U),(5,Bo Nk)],[Nn ⟨aI,6,140,[[eL (cL M5.c) v.p,eL cI v.x.From,eL (cL cI) v.x.Order,eL M7.c v.events,hS gw1 1 mR 1 v.values.length,hS Nl 2 mJ 1 v.busy.length]]⟩,bE gw1 mR 1 3 (v.values.map cI),bE Nl mJ 1 4 (v.busy.map cB)],qZ Z (.cons (.row<|.cons (.fz<|qC Z)<|.cons (.fz<|qC Z)<|.cons (.fz<|qC Z)<|.cons (.fz<|qC Z)<|.cons (.hS (g:=gw1) (b:=1) (ver:=mR) (s:=1) (n:=v.values.length) Z)<|.cons (.hS (g:=false) (b:=2) (ver:=mJ) (s:=1) (n:=v.busy.length) Z) .nil)<|.cons (.list (g:=gw1) (ver:=mR) (l:=v.values) qD)<|.cons (.list (g:=false) (ver:=mJ) (l:=v.busy) qD) .nil)<|aj (.fz<|qC Z)<|aj (.fz<|qC Z) bg,jQ (vs:=[I U,Bo Nk]) (.cons (.tmp Z)<|.cons (.tmp Z) .nil) ⟨0,Z,Z⟩⟩
  refine jG<|jH<|T.reserve<|jP (dG [dF,dF,dF,([0],Nl),dF,([3],Nl),dF,dF,dF,([3],Nl),dF,dF,([4],Nk),([4],Nk)]) (by kernel_rfl) (by kernel_rfl) ?_;refine go h λ_ h=>?_;refine fW 4 [] Z Z (λG hG=>EvA.alR 4 Li Z Z<|hG.a0 Z)<|go h λ_ h=>?_;refine Ng h (λ_ q5 h=>?_) λ_ q5 h=>?_
  ·refine go h λ_ h=>?_;obtain rfl:=M4 h
   repeat (first|refine lD ?_|refine lF ?_)
   exact ⟨ak [(4,I<|(J (J v.p<|d0.Thread)<|d0.Index).Val),(5,Bo Nk)],[Nn ⟨aI,6,140,[[eL (cL M5.c) v.p,eL cI v.x.From,eL (cL cI) v.x.Order,eL M7.c v.events,hS gw1 1 mR 1 v.values.length,hS Nl 2 mJ 1 v.busy.length]]⟩,bE gw1 mR 1 3 (v.values.map cI),bE Nl mJ 1 4 (v.busy.map cB)],qZ Z (.cons (.row<|.cons (.fz<|qC Z)<|.cons (.fz<|qC Z)<|.cons (.fz<|qC Z)<|.cons (.fz<|qC Z)<|.cons (.hS (g:=gw1) (b:=1) (ver:=mR) (s:=1) (n:=v.values.length) Z)<|.cons (.hS (g:=false) (b:=2) (ver:=mJ) (s:=1) (n:=v.busy.length) Z) .nil)<|.cons (.list (g:=gw1) (ver:=mR) (l:=v.values) qD)<|.cons (.list (g:=false) (ver:=mJ) (l:=v.busy) qD) .nil)<|aj (.fz<|qC Z)<|aj (.fz<|qC Z) bg,jQ (vs:=[I ((J (J v.p<|d0.Thread)<|d0.Index).Val),Bo Nk]) (.cons (.tmp Z)<|.cons (.tmp Z) .nil) ⟨0,Z,Z⟩⟩
  refine go h λ_ h=>?_;refine Ng h (λ_ q7 h=>?_) λ_ q7 h=>?_
  ·refine go h λ_ h=>?_;obtain rfl:=M4 h
   repeat (first|refine lD ?_|refine lF ?_)
   exact ⟨ak [(4,I U),(5,Bo Nl)],[Nn ⟨aI,6,140,[[eL (cL M5.c) v.p,eL cI v.x.From,eL (cL cI) v.x.Order,eL M7.c v.events,hS gw1 1 mR 1 v.values.length,hS Nl 2 mJ 1 v.busy.length]]⟩,bE gw1 mR 1 3 (v.values.map cI),bE Nl mJ 1 4 (v.busy.map cB)],qZ Z (.cons (.row<|.cons (.fz<|qC Z)<|.cons (.fz<|qC Z)<|.cons (.fz<|qC Z)<|.cons (.fz<|qC Z)<|.cons (.hS (g:=gw1) (b:=1) (ver:=mR) (s:=1) (n:=v.values.length) Z)<|.cons (.hS (g:=false) (b:=2) (ver:=mJ) (s:=1) (n:=v.busy.length) Z) .nil)<|.cons (.list (g:=gw1) (ver:=mR) (l:=v.values) qD)<|.cons (.list (g:=false) (ver:=mJ) (l:=v.busy) qD) .nil)<|aj (.fz<|qC Z)<|aj (.fz<|qC Z) bg,jQ (vs:=[I U,Bo Nl]) (.cons (.tmp Z)<|.cons (.tmp Z) .nil) ⟨0,Z,Z⟩⟩
  refine go h λ_ h=>?_;refine jB h λv8 cv8 h=>?_;refine oW Z Z Z (bP.outAt (rG (⟨v.p,(⟨v.x.From,v.x.Order⟩:M6),v.events,v.values,v.busy⟩:aF) (d0.Thread) (d0.Index) ((J (J v.p<|d0.Thread)<|d0.Index).Reg) aI mR mJ gw1 hgw1 cv8) [0,1,2] (by decide) (.cons Z (.rowL<|.cons (aZ 9 _ Z)<|.cons (aZ 9 _ Z)<|.cons (aZ 9 _ Z)<|.cons (aZ 9 _ Z)<|.cons (kI Z)<|.cons (kI Z) .nil)<|.bE Z qD<|.cons Z (RenK.bE' qD) .nil) (.cons (.hp Z)<|.cons (aZ 9 _ Z)<|.cons (aZ 9 _ Z)<|.cons (aZ 9 _ Z) .nil) (G:=λv_=>[Nn ⟨aI,6,140,[[eL (cL M5.c) v8.1.p,eL cI v8.1.x.From,eL (cL cI) v8.1.x.Order,eL M7.c v8.1.events,hS gw1 1 mR 1 v.values.length,hS Nl 2 mJ 1 v8.1.busy.length]]⟩,bE gw1 mR 1 3 (v.values.map cI),bE Nl mJ 1 4 (v8.1.busy.map cB)]) (G':=λv_=>[Nn ⟨aI,6,140,[[eL (cL M5.c) v8.1.p,eL cI v8.1.x.From,eL (cL cI) v8.1.x.Order,eL M7.c v8.1.events,hS gw1 1 mR 1 v.values.length,hS Nl 2 mJ 1 v8.1.busy.length]]⟩,bE gw1 mR 1 3 (v.values.map cI),bE Nl mJ 1 4 (v8.1.busy.map cB),Nn ⟨0,5,60,[(M7.c d0)]⟩,Nn ⟨0,4,79,[(M5.c<|J (J v.p<|d0.Thread)<|d0.Index)]⟩]) 5 Z (λv_ => .some (.rowL<|.cons (aZ 9 _ Z)<|.cons (aZ 9 _ Z)<|.cons (aZ 9 _ Z)<|.cons (aZ 9 _ Z)<|.cons (kI<|.inl Z)<|.cons (kI<|.inl Z) .nil)<|.bE qD<|.some (RenK.bE' qD) .nil) qD (r:=I v8.2) (aZ 9 _ Z) qD) λu9=>?_;refine go h λ_ h=>?_;refine Ng h (λ_ q10 h=>?_) λ_ q10 h=>?_
  ·refine go h λ_ h=>?_;obtain rfl:=M4 h
   repeat (first|refine lD ?_|refine lF ?_)
   exact ⟨ak [(4,I U),(5,Bo Nk)],[Nn ⟨aI,6,140,[[eL (cL M5.c) v8.1.p,eL cI v8.1.x.From,eL (cL cI) v8.1.x.Order,eL M7.c v8.1.events,hS gw1 1 mR 1 v.values.length,hS Nl 2 mJ 1 v8.1.busy.length]]⟩,bE gw1 mR 1 3 (v.values.map cI),bE Nl mJ 1 4 (v8.1.busy.map cB)],qZ Z (.cons (.row<|.cons (.fz<|qC Z)<|.cons (.fz<|qC Z)<|.cons (.fz<|qC Z)<|.cons (.fz<|qC Z)<|.cons (.hS (g:=gw1) (b:=1) (ver:=mR) (s:=1) (n:=v.values.length) Z)<|.cons (.hS (g:=false) (b:=2) (ver:=mJ) (s:=1) (n:=v8.1.busy.length) Z) .nil)<|.cons (.list (g:=gw1) (ver:=mR) (l:=v.values) qD)<|.cons (.list (g:=false) (ver:=mJ) (l:=v8.1.busy) qD) .nil)<|aj (.fz<|qC Z)<|aj (.fz<|qC Z) bg,jQ (vs:=[I U,Bo Nk]) (.cons (.tmp Z)<|.cons (.tmp Z) .nil) ⟨0,Z,Z⟩⟩
  refine go h λf h=>?_;obtain ⟨g11,_⟩:=f;refine oV (EvA.stO (g:=false) (l:=v8.1.busy) (cs:=[Bo Nk]) Nk ty4 Z Z Z nofun (bH Z g11) Z Z Z)<|go h λ_ h=>?_;refine jB h λv13 cv13 h=>?_;refine oW Z Z Z (bP.outAt (ih (⟨v8.1.p,(⟨v8.1.x.From,v8.1.x.Order⟩:M6),v8.1.events,v.values,(v8.1.busy.set i.toNat Nk)⟩:aF) (J v8.1.x.From v8.2) aI mR mJ gw1 hgw1 cv13) [0,1,2] (by decide) (.cons Z (.rowL<|.cons (aZ 9 _ Z)<|.cons (aZ 9 _ Z)<|.cons (aZ 9 _ Z)<|.cons (aZ 9 _ Z)<|.cons (kI Z)<|.cons (HY Z<|(by simp)) .nil)<|.bE Z qD<|.cons Z (RenK.bE' qD) .nil) (.cons (.hp Z)<|.cons (aZ 9 _ Z) .nil) (G:=λv_=>[Nn ⟨aI,6,140,[[eL (cL M5.c) v13.1.p,eL cI v13.1.x.From,eL (cL cI) v13.1.x.Order,eL M7.c v13.1.events,hS gw1 1 mR 1 v.values.length,hS Nl 2 mJ 1 v13.1.busy.length]]⟩,bE gw1 mR 1 3 (v.values.map cI),bE Nl mJ 1 4 (v13.1.busy.map cB)]) (G':=λv_=>[Nn ⟨aI,6,140,[[eL (cL M5.c) v13.1.p,eL cI v13.1.x.From,eL (cL cI) v13.1.x.Order,eL M7.c v13.1.events,hS gw1 1 mR 1 v.values.length,hS Nl 2 mJ 1 v13.1.busy.length]]⟩,bE gw1 mR 1 3 (v.values.map cI),bE Nl mJ 1 4 (v13.1.busy.map cB),Nn ⟨0,5,60,[(M7.c d0)]⟩,Nn ⟨0,4,79,[(M5.c<|J (J v.p<|d0.Thread)<|d0.Index)]⟩]) 5 Z (λv_ => .some (.rowL<|.cons (aZ 9 _ Z)<|.cons (aZ 9 _ Z)<|.cons (aZ 9 _ Z)<|.cons (aZ 9 _ Z)<|.cons (kI<|.inl Z)<|.cons (kI<|.inl Z) .nil)<|.bE qD<|.some (RenK.bE' qD) .nil) qD (r:=.tup [I v13.2.1,Bo v13.2.2]) (aZ 9 _ Z) qD) λu14=>?_;refine go h λf h=>?_;obtain ⟨g15,_⟩:=f;refine oV (EvA.stO (g:=false) (l:=v13.1.busy) (cs:=[Bo Nl]) Nl ty4 Z Z Z nofun (bH Z g15) Z Z Z)<|go h λ_ h=>?_;obtain rfl:=M4 h
  repeat (first|refine lD ?_|refine lF ?_)
  exact ⟨ak [(4,I v13.2.1),(5,Bo v13.2.2)],[Nn ⟨aI,6,140,[[eL (cL M5.c) v13.1.p,eL cI v13.1.x.From,eL (cL cI) v13.1.x.Order,eL M7.c v13.1.events,hS gw1 1 mR 1 v.values.length,hS Nl 2 mJ 1 ((v13.1.busy.set i.toNat Nl).length)]]⟩,bE gw1 mR 1 3 (v.values.map cI),bE Nl mJ 1 4 ((v13.1.busy.set i.toNat Nl).map cB)],qZ Z (.cons (.row<|.cons (.fz<|qC Z)<|.cons (.fz<|qC Z)<|.cons (.fz<|qC Z)<|.cons (.fz<|qC Z)<|.cons (.hS (g:=gw1) (b:=1) (ver:=mR) (s:=1) (n:=v.values.length) Z)<|.cons (.eqv (congrArg (hS Nl 2 mJ 1) (by simp:v13.1.busy.length=(v13.1.busy.set i.toNat Nl).length))<|.hS (g:=false) (b:=2) (ver:=mJ) (s:=1) (n:=(v13.1.busy.set i.toNat Nl).length) Z) .nil)<|.cons (.list (g:=gw1) (ver:=mR) (l:=v.values) qD)<|.cons (.list (g:=false) (ver:=mJ) (l:=(v13.1.busy.set i.toNat Nl)) qD) .nil)<|aj (.fz<|qC Z)<|aj (.fz<|qC Z) bg,jQ (vs:=[I v13.2.1,Bo v13.2.2]) (.cons (.tmp Z)<|.cons (.tmp Z) .nil) ⟨0,Z,Z⟩⟩
theorem uh (v:aF) (i:Int) (aI:Nat) (mR:Nat) (mJ:Nat) (gw1:Bool) (hgw1:gw1=Nk->v.values=[]) {q} (h:kM v i=Nn q):bP Nr 104 [.hp 0 aI 6 0 0,I i] [Nn ⟨aI,6,140,[[eL (cL M5.c) v.p,eL cI v.x.From,eL (cL cI) v.x.Order,eL M7.c v.events,hS gw1 1 mR 1 v.values.length,hS Nl 2 mJ 1 v.busy.length]]⟩,bE gw1 mR 1 3 (v.values.map cI),bE Nl mJ 1 4 (v.busy.map cB)] (Ke (.tup [I q.2.1,Bo q.2.2]) λver=>[Nn ⟨aI,6,140,[[eL (cL M5.c) q.1.p,eL cI q.1.x.From,eL (cL cI) q.1.x.Order,eL M7.c q.1.events,hS gw1 1 mR 1 v.values.length,hS Nl 2 mJ 1 q.1.busy.length]]⟩,bE gw1 mR 1 3 (v.values.map cI),bE Nl mJ 1 4 (q.1.busy.map cB)]):=by
 obtain ⟨nf,h⟩:=tz h;exact sW nf v i aI mR mJ gw1 hgw1 h
theorem xG (p:List<|List M5) (x:M6) {q} (h:lW p x=Nn q):aD Nr 46 [eL (cL M5.c) p,.agg (M6.c x)] (.tup [eL cI q.1,Bo q.2]):=by
 refine pM func46 Z (by kernel_rfl) Z<|go h λ_ h=>?_;refine eF Z Z Z<|gq h λ_ h=>?_;refine jH<|T.reserve<|T.reserve<|jP (dG [dF,dF,dF,dF,dF,([1],Nk),dF]) (by kernel_rfl) (by kernel_rfl) ?_;refine go h λ_ h=>?_;refine fC h (λ_=>p9 _) Z Z Z Z Z λv1 _ h=>(go h λ_ h=>?_);refine fW 1 [] Z Z (λG hG=>EvA.bxA (cs:=[eL (cL M5.c) p,eL cI x.From,eL (cL cI) x.Order,eL M7.c v1,hS Nk 0 0 1 (([]:LI).length),.nil]) 1 Z Z<|hG.a0 Z)<|go h λ_ h=>?_;refine jD h λg2 h=>oA (EvA.mkN (c:=cB) (Nj:Bool) Mi Z Z g2 Z Z Z)<|go h λ_ h=>?_;obtain ⟨Ks3,es3,ws3,h,ks3⟩:=Bq h;refine T.join (S:=(LI)×(List<|List M5)×(LI)×(LL)×(List M7)×(List Bool)) (G:=(Bool×Nat)×Nat) (λs3=>Ks3 s3=Nn q) (λs3 gh=>(gh.1.1=Nk->s3.1=[])) (λs3 gh=>[(6,.hp 1 0 6 0 0)]) (λs3 gh=>[bE gh.1.1 gh.1.2 1 3 (s3.1.map cI),Nn ⟨0,6,140,[[eL (cL M5.c) s3.2.1,eL cI s3.2.2.1,eL (cL cI) s3.2.2.2.1,eL M7.c s3.2.2.2.2.1,hS gh.1.1 0 gh.1.2 1 s3.1.length,hS Nl 2 gh.2 1 s3.2.2.2.2.2.length]]⟩,bE Nl gh.2 1 4 (s3.2.2.2.2.2.map cB)]) (λs3 gh h n28=>?_) ?_
 ·clear ks3;subst es3;obtain ⟨⟨b27,u26⟩,u29⟩:=gh;exact gf h
 refine go h λ_ h=>?_;refine tL h ((Nk,0),0) (λs10 gh=>(gh.1.1=Nk->s10.1=[])) (λs10 gh=>[(32,I s10.2.2.2.2.2.2),(31,I (v1.length:Int)),(30,eL M7.c v1),(6,.hp 1 0 6 0 0)]) (λs10 gh=>[bE gh.1.1 gh.1.2 1 3 (s10.1.map cI),Nn ⟨0,6,140,[[eL (cL M5.c) s10.2.1,eL cI s10.2.2.1,eL (cL cI) s10.2.2.2.1,eL M7.c s10.2.2.2.2.1,hS gh.1.1 0 gh.1.2 1 s10.1.length,hS Nl 2 gh.2 1 s10.2.2.2.2.2.1.length]]⟩,bE Nl gh.2 1 4 (s10.2.2.2.2.2.1.map cB)]) qD λs10 gh ws10 h n14=>?_;obtain ⟨⟨b13,u12⟩,u15⟩:=gh;refine go h λ_ h=>?_;refine jH ?_;refine jN Z h (λq16 h=>?_) λq16 h=>?_
 ·refine go h λ_ h=>?_;refine gs h λ_ h=>?_;obtain ⟨Ks18,es18,ws18,h,ks18⟩:=Bq h;refine T.join (S:=(List<|List M5)×(LI)×(LL)×(List M7)×(List Bool)×Int) (G:=Nat) (λs18=>Ks18 s18=Nn ws10) (λs18 gh=>True) (λs18 gh=>[(9,I s18.2.2.2.2.2),(32,I s10.2.2.2.2.2.2),(31,I (v1.length:Int)),(30,eL M7.c v1),(6,.hp 1 0 6 0 0)]) (λs18 gh=>[bE b13 u12 1 3 (s10.1.map cI),Nn ⟨0,6,140,[[eL (cL M5.c) s18.1,eL cI s18.2.1,eL (cL cI) s18.2.2.1,eL M7.c s18.2.2.2.1,hS b13 0 u12 1 s10.1.length,hS Nl 2 gh 1 s18.2.2.2.2.1.length]]⟩,bE Nl gh 1 4 (s18.2.2.2.2.1.map cB),Nn ⟨0,5,60,[(M7.c<|J v1 s10.2.2.2.2.2.2)]⟩]) (λs18 u23 h hg=>?_) ?_
  ·clear ks18;subst es18;refine gk h λ_ _ h=>?_;obtain rfl:=M4 h;exact ⟨((s10.1++[s18.2.2.2.2.2]),s18.1,s18.2.1,s18.2.2.1,s18.2.2.2.1,s18.2.2.2.2.1,(s10.2.2.2.2.2.2+V)),((Nl,u12+1),u23),Z,nofun,Nh⟩
  refine gi h (λ_ q19 h=>?_) λ_ q19 h=>?_
  ·refine go h λ_ h=>?_;refine jB h λv20 cv20 h=>?_;refine oW Z Z Z (bP.outAt (uh (⟨s10.2.1,(⟨s10.2.2.1,s10.2.2.2.1⟩:M6),s10.2.2.2.2.1,s10.1,s10.2.2.2.2.2.1⟩:aF) s10.2.2.2.2.2.2 0 u12 u15 b13 n14 cv20) [1,0,2] (by decide) (.cons Z (.rowL<|.cons (aZ 9 _ Z)<|.cons (aZ 9 _ Z)<|.cons (aZ 9 _ Z)<|.cons (aZ 9 _ Z)<|.cons (kI Z)<|.cons (kI Z) .nil)<|.bE Z qD<|.cons Z (RenK.bE' qD) .nil) (.cons (.hp Z)<|.cons (aZ 9 _ Z) .nil) (G:=λv_=>[Nn ⟨0,6,140,[[eL (cL M5.c) v20.1.p,eL cI v20.1.x.From,eL (cL cI) v20.1.x.Order,eL M7.c v20.1.events,hS b13 0 u12 1 s10.1.length,hS Nl 2 u15 1 v20.1.busy.length]]⟩,bE b13 u12 1 3 (s10.1.map cI),bE Nl u15 1 4 (v20.1.busy.map cB)]) (G':=λv_=>[bE b13 u12 1 3 (s10.1.map cI),Nn ⟨0,6,140,[[eL (cL M5.c) v20.1.p,eL cI v20.1.x.From,eL (cL cI) v20.1.x.Order,eL M7.c v20.1.events,hS b13 0 u12 1 s10.1.length,hS Nl 2 u15 1 v20.1.busy.length]]⟩,bE Nl u15 1 4 (v20.1.busy.map cB),Nn ⟨0,5,60,[(M7.c<|J v1 s10.2.2.2.2.2.2)]⟩]) 4 Z (λv_ => .some (.rowL<|.cons (aZ 9 _ Z)<|.cons (aZ 9 _ Z)<|.cons (aZ 9 _ Z)<|.cons (aZ 9 _ Z)<|.cons (kI<|.inl Z)<|.cons (kI<|.inl Z) .nil)<|.bE qD<|.some (RenK.bE' qD) .nil) qD (r:=.tup [I v20.2.1,Bo v20.2.2]) (aZ 9 _ Z) qD) λu21=>?_;refine go h λ_ h=>?_;refine Ng h (λ_ q22 h=>?_) λ_ q22 h=>?_
   ·refine go h λ_ h=>?_;obtain rfl:=M4 h;replace h:=congrArg Nn (show _=_ from ks18);refine lX h λh=>?_;obtain rfl:=M4 h;replace h:=congrArg Nn (show _=_ from ks3);exact gf h
   refine go h λ_ h=>?_;obtain rfl:=M4 h;exact ⟨(v20.1.p,v20.1.x.From,v20.1.x.Order,v20.1.events,v20.1.busy,v20.2.1),u15,ks18,trivial,Nh⟩
  refine go h λ_ h=>?_;obtain rfl:=M4 h;exact ⟨(s10.2.1,s10.2.2.1,s10.2.2.2.1,s10.2.2.2.2.1,s10.2.2.2.2.2.1,(-1:Int)),u15,ks18,trivial,Nh⟩
 refine jM<|lX h λh=>?_;obtain rfl:=M4 h;exact ⟨(s10.1,s10.2.1,s10.2.2.1,s10.2.2.2.1,s10.2.2.2.2.1,s10.2.2.2.2.2.1),((b13,u12),u15),ks3,n14,Nh⟩
end
end Go.Proofs.YtabfkkjdfhbngaaGreatDoor
