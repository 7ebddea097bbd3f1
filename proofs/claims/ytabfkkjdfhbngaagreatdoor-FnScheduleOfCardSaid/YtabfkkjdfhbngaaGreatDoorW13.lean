/- Texts joined. No conditions. -/
import Derived.Test.YtabfkkjdfhbngaaGreatDoorW12
namespace Go.Proofs.YtabfkkjdfhbngaaGreatDoor
noncomputable section
open _root_.Inhabited renaming default -> Rh
open _root_.Bool renaming true -> Ri
open _root_.Bool renaming false -> Rj
open _root_.Option renaming some -> Rk
open _root_.Go.Proofs.Tryz
open _root_.Go.Proofs.Tryz renaming prog -> Rn
set_option maxHeartbeats 4000000
open Go.RowKit
set_option maxRecDepth 100000
attribute [local irreducible] T TO TF TG TX QR EvA
theorem wA (s:BA) (sep:BA) (sepSave:Int) (n:Int) {q} (h:jd s sep sepSave n=Rk q):ax Rn 146 [St s,St sep,I sepSave,I n] (eL cS q):=by
 refine pM func146 Z (by kernel_rfl) Z<|go h λ_ h=>?_;refine Rb h (λ_ q1 h=>?_) λ_ q1 h=>?_
 ·refine go h λ_ h=>?_;obtain rfl:=QU h
  repeat (first|refine n9 ?_|refine og ?_)
  exact jQ (vs:=[.nil]) (.cons (.tmp Z) .nil) .nil0
 refine go h λ_ h=>?_;refine Rb h (λ_ q2 h=>?_) λ_ q2 h=>?_
 ·cases h
 refine go h λ_ h=>?_;refine T.jU h (λs3=>[(3,I s3),(0,St s),(1,St sep),(2,I sepSave)]) (λs3=>[]) (λs3 h=>?_) λs3 h=>?_
 ·refine go h λ_ h=>?_;refine jD h λg8 h=>oA (EvA.mkN (c:=cS) (Rh:BA) Pk Z Z g8 Z Z Z)<|go h λ_ h=>?_;refine tJ h (λs10 gh=>[(10,I s10.2.1),(9,hS Rj 0 gh 1 s10.1.length),(0,St s10.2.2)]) (λs10 gh=>[bE Rj gh 1 9 (s10.1.map cS)]) (λs10 u26 h=>?_) λs10 h=>?_
  ·refine go h λf h=>?_;obtain ⟨g27,_⟩:=f;refine oV (EvA.stO (g:=false) (l:=s10.1) (cs:=[St s10.2.2]) s10.2.2 ty9 Z Z Z nofun (aQ Z g27) Z Z Z)<|jA<|jI<|oN mv<|oN mv<|jW h λg28 h=>oN (QR.add Z Z g28)<|TO.cut (e0:=ai [(64,I<|s10.2.1+(1:Int)),(62,eL cS<|s10.1.set s10.2.1.toNat s10.2.2)]) (H0:=[]) (uY Z .nil<|au (.fz<|qC Z)<|au (.fz<|Fz.own (g:=false) (ver:=u26) (l:=(s10.1.set s10.2.1.toNat s10.2.2)) Z Z (by simp) nofun qD) bB)<|jD h λg29 h=>oN (QR.slL Pk Z .no (.yes Z) g29 qD) ?_;exact gz h
  refine go h λ_ h=>?_;refine tT h 0 (λs14 gh=>[(10,I s14.2.1),(3,I<|(if ((s.size:Int)+V)<s3 then ((s.size:Int)+V) else s3)-V),(9,hS Rj 0 gh 1 s14.1.length),(0,St s14.2.2),(1,St sep),(2,I sepSave)]) (λs14 gh=>[bE Rj gh 1 9 (s14.1.map cS)]) λs14 u16 ws14 h=>?_;refine Rb h (λ_ q17 h=>?_) λ_ q17 h=>?_
  ·refine go h λ_ h=>?_;refine oC h (λ_=>tP _ _) Z Z Z Z λv18 _ h=>(go h λ_ h=>?_);refine Rb h (λ_ q19 h=>?_) λ_ q19 h=>?_
   ·refine jM<|lX h λh=>?_
    cases h
    exact ⟨u16,trivial,Re⟩
   refine go h λf h=>?_;obtain ⟨g22,_⟩:=f;refine oV (EvA.stO (g:=false) (l:=s14.1) (cs:=[St (s14.2.2.extract U.toNat (v18+sepSave).toNat)]) (s14.2.2.extract U.toNat (v18+sepSave).toNat) ty9 Z Z Z nofun (aQ Z g22) Z Z Z)<|go h λ_ h=>?_;obtain rfl:=QU h;exact ⟨((s14.1.set s14.2.1.toNat<|s14.2.2.extract (0:Int).toNat (v18+sepSave).toNat),(s14.2.1+(1:Int)),(s14.2.2.extract (v18+(sep.size:Int)).toNat (s14.2.2.size:Int).toNat)),u16,Z,trivial,Ap Z<|QQ Z<|QQ Z<|QQ (congrArg (hS Rj 0 u16 1) (by simp:s14.1.length=(s14.1.set s14.2.1.toNat<|s14.2.2.extract (0:Int).toNat (v18+sepSave).toNat).length))<|QQ Z<|QQ Z<|QQ Z QP⟩
  refine jM<|lX h λh=>?_
  cases h
  exact ⟨u16,trivial,Re⟩
 refine gi h (λ_ q4 h=>?_) λ_ q4 h=>?_
 ·refine go h λ_ h=>?_;refine oC h (λ_=>zI _ _) Z Z Z Z λv5 _ h=>(go h λ_ h=>?_)
  cases h
  exact ⟨(),trivial,Re⟩
 refine go h λ_ h=>?_
 cases h
 exact ⟨(),trivial,Re⟩
theorem zJ (s:BA) (sep:BA) {q} (h:mr s sep=Rk q):ax Rn 85 [St s,St sep] (eL cS q):=by
 refine pM func85 Z (by kernel_rfl) Z<|go h λ_ h=>?_;refine oC h (λ_=>wA _ _ _ _) Z Z Z Z λv1 _ h=>?_;exact gz h
theorem qA (s:BA) (sep:BA) {q} (h:cT s sep=Rk q):ax Rn 147 [St s,St sep] (.tup [St q.1,St q.2.1,Bo q.2.2]):=by
 refine pM func147 Z (by kernel_rfl) Z<|go h λ_ h=>?_;refine gs h λ_ h=>?_;refine oC h (λ_=>ig _ _) Z Z Z Z λv1 _ h=>?_;refine gi h (λ_ q2 h=>?_) λ_ q2 h=>?_
 ·refine jH<|T.drawP (by kernel_rfl) (by kernel_rfl) ?_;exact gf h
 exact gf h
theorem Cr (s:BA) (sep:BA) {q} (h:qf s sep=Rk q):ax Rn 86 [St s,St sep] (.tup [St q.1,St q.2.1,Bo q.2.2]):=by
 refine pM func86 Z (by kernel_rfl) Z<|go h λ_ h=>?_;refine oC h (λ_=>qA _ _) Z Z Z Z λv1 _ h=>?_;exact gf h
theorem ij (s:List BA) (v:BA) {q} (h:bA s v=Rk q):ax Rn 87 [eL cS s,St v] (I q):=by
 refine pM func87 Z (by kernel_rfl) Z<|go h λ_ h=>?_;obtain ⟨Ks1,es1,ws1,h,ks1⟩:=sumL h;refine T.join (S:=Unit) (G:=Unit) (λs1=>Ks1 s1=Rk q) (λs1 gh=>True) (λs1 gh=>[]) (λs1 gh=>[]) (λs1 gh h hg=>?_) ?_
 ·clear ks1;subst es1;exact gz h
 refine go h λ_ h=>?_;refine tU h (λs4=>[(8,I s4),(7,I (s.length:Int)),(0,eL cS s),(1,St v)]) (λs4=>[]) λs4 ws4 h=>?_;refine go h λ_ h=>?_;refine jH ?_;refine jN Z h (λq6 h=>?_) λq6 h=>?_
 ·refine go h λ_ h=>?_;refine Rb h (λ_ q8 h=>?_) λ_ q8 h=>?_
  ·refine go h λ_ h=>?_;refine lX h λh=>?_;obtain rfl:=QU h;replace h:=congrArg Rk (show _=_ from ks1);exact gz h
  refine go h λ_ h=>?_;exact lE h Re
 refine jM<|lX h λh=>?_
 cases h
 exact ⟨(),(),ks1,trivial,Re⟩
theorem cF (r_:aa) (c:Int) (aG:Nat) {q} (h:aY r_ c=some q):dS Tryz.prog 212 [.hp 0 aG 2 0 0,Y c] [some ⟨aG,2,174,[(aa.c r_)]⟩] (Bo q.2) [some ⟨aG,2,174,[(aa.c q.1)]⟩]:=by
 refine aM Tryz.func212 Z (by kernel_rfl) Z<|go h λ_ h=>?_;refine gs h λ_ h=>?_;refine TO.jB h 6 (λs1=>[(15,Bo s1),(0,.hp 0 aG 2 0 0),(1,Y c)]) (λs1=>[some ⟨aG,2,174,[(aa.c r_)]⟩]) (λs1 q2 h js1=>?_) (λs1 q2 h js1=>?_) λs1 h=>?_
 ·exact gj h js1
 ·refine go h λ_ h=>?_;refine gA Z q2 (lh (St r_.rest) ty9 Z Z Z) ?_;exact gj h js1
 refine go h λ_ h=>?_;refine TO.jB h 8 (λs3=>[(24,Bo s3),(0,.hp 0 aG 2 0 0)]) (λs3=>[some ⟨aG,2,174,[(aa.c r_)]⟩]) (λs3 q4 h js3=>?_) (λs3 q4 h js3=>?_) λs3 h=>?_
 ·exact gj h js3
 ·refine go h λ_ h=>?_;refine gA Z q4 (lh (St r_.rest) ty9 Z Z Z) ?_;exact gj h js3
 refine gi h (λ_ q6 h=>?_) λ_ q6 h=>?_
 ·refine go h λ_ h=>?_;obtain rfl:=QU h
  repeat (first|refine n9 ?_|refine og ?_)
  exact ⟨ai [(4,Bo false)],[some ⟨aG,2,174,[(aa.c (⟨r_.rest,r_.failed⟩:aa))]⟩],Re,jQ (vs:=[Bo false]) (.cons (.tmp Z) .nil) ⟨Z,Z⟩⟩
 refine go h λ_ h=>?_;obtain rfl:=QU h
 repeat (first|refine n9 ?_|refine og ?_)
 exact ⟨ai [(4,Bo true)],[some ⟨aG,2,174,[(aa.c (⟨(r_.rest.extract V.toNat (r_.rest.size:Int).toNat),r_.failed⟩:aa))]⟩],Re,jQ (vs:=[Bo true]) (.cons (.tmp Z) .nil) ⟨Z,Z⟩⟩
theorem uA (r_:aa) (aG:Nat) {q} (h:fE r_=some q):dS Tryz.prog 258 [.hp 0 aG 2 0 0] [some ⟨aG,2,174,[(aa.c r_)]⟩] (St q.2) [some ⟨aG,2,174,[(aa.c q.1)]⟩]:=by
 refine aM Tryz.func258 Z (by kernel_rfl) Z<|go h λ_ h=>?_;refine T.jU h (λs1=>[(3,I s1),(0,.hp 0 aG 2 0 0)]) (λs1=>[some ⟨aG,2,174,[(aa.c r_)]⟩]) (λs1 h=>?_) λs1 h=>?_
 ·refine go h λ_ h=>?_;obtain rfl:=QU h
  repeat (first|refine n9 ?_|refine og ?_)
  exact ⟨ai [(2,St<|r_.rest.extract U.toNat s1.toNat)],[some ⟨aG,2,174,[(aa.c (⟨(r_.rest.extract s1.toNat (r_.rest.size:Int).toNat),r_.failed⟩:aa))]⟩],Re,jQ (vs:=[St (r_.rest.extract U.toNat s1.toNat)]) (.cons (.tmp Z) .nil) ⟨Z,Z⟩⟩
 refine go h λ_ h=>?_;refine tU h (λs4=>[(3,I s4),(0,.hp 0 aG 2 0 0)]) (λs4=>[some ⟨aG,2,174,[(aa.c r_)]⟩]) λs4 ws4 h=>?_;refine gs h λ_ h=>?_;refine TO.jB h 8 (λs6=>[(20,Bo s6),(3,I s4),(0,.hp 0 aG 2 0 0)]) (λs6=>[some ⟨aG,2,174,[(aa.c r_)]⟩]) (λs6 q7 h js6=>?_) (λs6 q7 h js6=>?_) λs6 h=>?_
 ·refine go h λ_ h=>?_;refine gA Z q7 (lh (St r_.rest) ty9 Z Z Z) ?_;exact gj h js6
 ·exact gj h js6
 refine go h λ_ h=>?_;refine TO.jB h 8 (λs9=>[(29,Bo s9),(3,I s4),(0,.hp 0 aG 2 0 0)]) (λs9=>[some ⟨aG,2,174,[(aa.c r_)]⟩]) (λs9 q10 h js9=>?_) (λs9 q10 h js9=>?_) λs9 h=>?_
 ·refine go h λ_ h=>?_;refine gA Z q10 (lh (St r_.rest) ty9 Z Z Z) ?_;exact gj h js9
 ·exact gj h js9
 refine gi h (λ_ q12 h=>?_) λ_ q12 h=>?_
 ·refine go h λ_ h=>?_;exact lE h Re
 refine jM<|lX h λh=>?_
 cases h
 exact ⟨(),trivial,Re⟩
theorem oJ (dI:aa->Int->Option (aa×ae)) (ih148:∀ (r_:aa) (level:Int) (aG:Nat) {q},dI r_ level=some q->dS Tryz.prog 148 [.hp 0 aG 2 0 0,I level] [some ⟨aG,2,174,[(aa.c r_)]⟩] (.agg<|ae.c q.2) [some ⟨aG,2,174,[(aa.c q.1)]⟩]):∀ (nf:Nat) (r_:aa) (aG:Nat) {q:aa×ae} (h:bu dI nf r_=some q),dS Tryz.prog 210 [.hp 0 aG 2 0 0] [some ⟨aG,2,174,[(aa.c r_)]⟩] (.agg<|ae.c q.2) [some ⟨aG,2,174,[(aa.c q.1)]⟩]:=by
 intro nf
 induction nf with
 | zero=>intros;rename_i h;cases h
 | succ nf ih=>
  intro r_ aG q h;replace h:bR dI (bu dI nf) r_=some q:=h;refine aM Tryz.func210 Z (by kernel_rfl) Z<|go h λ_ h=>?_;refine gs h λ_ h=>?_;refine jB h λv1 cv1 h=>oA (EvA.call Z Z Z<|(cF (⟨r_.rest,r_.failed⟩:aa) (40:Int) aG cv1).one 0 Z (.cons (.hp Z)<|.cons (.pF Z) .nil) (ak Z) (ak Z) Z) ?_;refine gi h (λ_ q2 h=>?_) λ_ q2 h=>?_
  ·refine go h λ_ h=>?_;refine jB h λv3 cv3 h=>oA (EvA.call Z Z Z<|(ih148 (⟨v1.1.rest,v1.1.failed⟩:aa) (3:Int) aG cv3).one 0 Z (.cons (.hp Z)<|.cons (.pF Z) .nil) (ak Z) (ak Z) Z)<|go h λ_ h=>?_;refine T.jU h (λs4=>[(3,.hp 2 0 3 0 0),(2,.hp 1 0 3 0 0)]) (λs4=>[some ⟨aG,2,174,[[St s4.1,Bo s4.2]]⟩,some ⟨0,3,116,[[I U,St (⟨#[]⟩:BA),.nil]]⟩,some ⟨0,3,116,[(ae.c v3.2)]⟩]) (λs4 h=>?_) λs4 h=>?_
   ·refine go h λ_ h=>?_;obtain rfl:=QU h
    repeat (first|refine n9 ?_|refine og ?_)
    exact ⟨ai [(2,.fp (ae.c (⟨v3.2.Op,v3.2.Name,v3.2.Kids⟩:ae)) 0)],[some ⟨aG,2,174,[(aa.c (⟨s4.1,s4.2⟩:aa))]⟩],uY Z (.cons (.row<|.cons (.fz<|qC Z)<|.cons (.fz<|qC Z) .nil) .nil)<|au (.fz<|Fz.fpL (ver:=0) (s:=3) (ty:=116) (rows:=[[I v3.2.Op,St v3.2.Name,eL ZTE.c v3.2.Kids]]) Z Z Z<|.cons (qC Z)<|.cons (qC Z)<|.cons (qC Z) .nil) bB,jQ (vs:=[.agg (ae.c (⟨v3.2.Op,v3.2.Name,v3.2.Kids⟩:ae))]) (.cons (.cellF (.agg<|ae.c (⟨v3.2.Op,v3.2.Name,v3.2.Kids⟩:ae)) Fg Z Z) .nil) ⟨Z,Z⟩⟩
   refine go h λ_ h=>?_;refine jB h λv5 cv5 h=>oA (EvA.call Z Z Z<|(cF (⟨v3.1.rest,v3.1.failed⟩:aa) (41:Int) aG cv5).one 0 Z (.cons (.hp Z)<|.cons (.pF Z) .nil) (ak Z) (ak Z) Z) ?_;refine gi h (λ_ q6 h=>?_) λ_ q6 h=>?_
   ·refine go h λ_ h=>?_
    cases h
    exact ⟨(),trivial,Re⟩
   refine go h λ_ h=>?_
   cases h
   exact ⟨(),trivial,Re⟩
  refine go h λ_ h=>?_;refine jB h λv7 cv7 h=>oA (EvA.call Z Z Z<|(cF (⟨v1.1.rest,v1.1.failed⟩:aa) (126:Int) aG cv7).one 0 Z (.cons (.hp Z)<|.cons (.pF Z) .nil) (ak Z) (ak Z) Z) ?_;refine gi h (λ_ q8 h=>?_) λ_ q8 h=>?_
  ·refine go h λ_ h=>?_;refine jB h λv9 cv9 h=>oA (EvA.call Z Z Z<|(ih (⟨v7.1.rest,v7.1.failed⟩:aa) aG cv9).one 0 Z (.cons (.hp Z) .nil) (ak Z) (ak Z) Z)<|oN (QR.res (QR.mkF (c:=ae.c) ([v9.2]:List ae) [(ae.c v9.2)] El Z Z Z qD ae.isF Z) (r':=eL ZTE.c ([v9.2.inn]:List ZTE)) λ_ _ hr=>F4 ae.inn_c hr) ?_;refine go h λ_ h=>?_;obtain rfl:=QU h
   repeat (first|refine n9 ?_|refine og ?_)
   exact ⟨ai [(2,.fp (ae.c (⟨(6:Int),(⟨#[]⟩:BA),([v9.2.inn]:List ZTE)⟩:ae)) 0)],[some ⟨aG,2,174,[(aa.c (⟨v9.1.rest,v9.1.failed⟩:aa))]⟩],uY Z (.cons (.row<|.cons (.fz<|qC Z)<|.cons (.fz<|qC Z) .nil) .nil)<|au (.fz<|Fz.fpL (ver:=0) (s:=3) (ty:=116) (rows:=[[I (6:Int),St (⟨#[]⟩:BA),eL ZTE.c ([v9.2.inn]:List ZTE)]]) Z Z Z<|.cons (qC Z)<|.cons (qC Z)<|.cons (qC Z) .nil) bB,jQ (vs:=[.agg (ae.c (⟨(6:Int),(⟨#[]⟩:BA),([v9.2.inn]:List ZTE)⟩:ae))]) (.cons (.cellF (.agg<|ae.c (⟨(6:Int),(⟨#[]⟩:BA),([v9.2.inn]:List ZTE)⟩:ae)) Fg Z Z) .nil) ⟨Z,Z⟩⟩
  refine go h λ_ h=>?_;refine jB h λv10 cv10 h=>oA (EvA.call Z Z Z<|(cF (⟨v7.1.rest,v7.1.failed⟩:aa) (43:Int) aG cv10).one 0 Z (.cons (.hp Z)<|.cons (.pF Z) .nil) (ak Z) (ak Z) Z) ?_;refine gi h (λ_ q11 h=>?_) λ_ q11 h=>?_
  ·refine go h λ_ h=>?_;refine jB h λv12 cv12 h=>oA (EvA.call Z Z Z<|(ih (⟨v10.1.rest,v10.1.failed⟩:aa) aG cv12).one 0 Z (.cons (.hp Z) .nil) (ak Z) (ak Z) Z)<|oN (QR.res (QR.mkF (c:=ae.c) ([v12.2]:List ae) [(ae.c v12.2)] El Z Z Z qD ae.isF Z) (r':=eL ZTE.c ([v12.2.inn]:List ZTE)) λ_ _ hr=>F4 ae.inn_c hr) ?_;refine go h λ_ h=>?_;obtain rfl:=QU h
   repeat (first|refine n9 ?_|refine og ?_)
   exact ⟨ai [(2,.fp (ae.c (⟨(7:Int),(⟨#[]⟩:BA),([v12.2.inn]:List ZTE)⟩:ae)) 0)],[some ⟨aG,2,174,[(aa.c (⟨v12.1.rest,v12.1.failed⟩:aa))]⟩],uY Z (.cons (.row<|.cons (.fz<|qC Z)<|.cons (.fz<|qC Z) .nil) .nil)<|au (.fz<|Fz.fpL (ver:=0) (s:=3) (ty:=116) (rows:=[[I (7:Int),St (⟨#[]⟩:BA),eL ZTE.c ([v12.2.inn]:List ZTE)]]) Z Z Z<|.cons (qC Z)<|.cons (qC Z)<|.cons (qC Z) .nil) bB,jQ (vs:=[.agg (ae.c (⟨(7:Int),(⟨#[]⟩:BA),([v12.2.inn]:List ZTE)⟩:ae))]) (.cons (.cellF (.agg<|ae.c (⟨(7:Int),(⟨#[]⟩:BA),([v12.2.inn]:List ZTE)⟩:ae)) Fg Z Z) .nil) ⟨Z,Z⟩⟩
  refine go h λ_ h=>?_;refine jB h λv13 cv13 h=>oA (EvA.call Z Z Z<|(uA (⟨v10.1.rest,v10.1.failed⟩:aa) aG cv13).one 0 Z (.cons (.hp Z) .nil) (ak Z) (ak Z) Z)<|go h λ_ h=>?_;refine T.jU h (λs14=>[(4,St v13.2),(2,.hp 1 0 3 0 0)]) (λs14=>[some ⟨aG,2,174,[[St v13.1.rest,Bo s14]]⟩,some ⟨0,3,116,[[I U,St (⟨#[]⟩:BA),.nil]]⟩]) (λs14 h=>?_) λs14 h=>?_
  ·refine go h λ_ h=>?_;obtain rfl:=QU h
   repeat (first|refine n9 ?_|refine og ?_)
   exact ⟨ai [(2,.fp (ae.c (⟨V,v13.2,([]:List ZTE)⟩:ae)) 0)],[some ⟨aG,2,174,[(aa.c (⟨v13.1.rest,s14⟩:aa))]⟩],uY Z (.cons (.row<|.cons (.fz<|qC Z)<|.cons (.fz<|qC Z) .nil) .nil)<|au (.fz<|Fz.fpL (ver:=0) (s:=3) (ty:=116) (rows:=[[I V,St v13.2,.nil]]) Z Z Z<|.cons (qC Z)<|.cons (qC Z)<|.cons (.nil0) .nil) bB,jQ (vs:=[.agg (ae.c (⟨V,v13.2,([]:List ZTE)⟩:ae))]) (.cons (.cellF (.agg<|ae.c (⟨V,v13.2,([]:List ZTE)⟩:ae)) Fg Z Z) .nil) ⟨Z,Z⟩⟩
  refine gi h (λ_ q15 h=>?_) λ_ q15 h=>?_
  ·refine go h λ_ h=>?_
   cases h
   exact ⟨(),trivial,Re⟩
  refine go h λ_ h=>?_
  cases h
  exact ⟨(),trivial,Re⟩
theorem pQ (dI:aa->Int->Option (aa×ae)) (ih148:∀ (r_:aa) (level:Int) (aG:Nat) {q},dI r_ level=some q->dS Tryz.prog 148 [.hp 0 aG 2 0 0,I level] [some ⟨aG,2,174,[(aa.c r_)]⟩] (.agg<|ae.c q.2) [some ⟨aG,2,174,[(aa.c q.1)]⟩]) (r_:aa) (aG:Nat) {q:aa×ae} (h:eC dI r_=some q):dS Tryz.prog 210 [.hp 0 aG 2 0 0] [some ⟨aG,2,174,[(aa.c r_)]⟩] (.agg<|ae.c q.2) [some ⟨aG,2,174,[(aa.c q.1)]⟩]:=by
 obtain ⟨nf,h⟩:=rW h;exact oJ dI ih148 nf r_ aG h
theorem nS (op:Int) {q} (h:gH op=some q):ax Tryz.prog 211 [I op] (.tup [I q.1,St q.2.1,I q.2.2]):=by
 refine pM Tryz.func211 Z (by kernel_rfl) Z<|go h λ_ h=>?_;refine Rb h (λ_ q1 h=>?_) λ_ q1 h=>?_
 ·exact gf h
 refine gi h (λ_ q2 h=>?_) λ_ q2 h=>?_
 ·exact gf h
 refine gi h (λ_ q3 h=>?_) λ_ q3 h=>?_
 ·exact gf h
 refine gi h (λ_ q4 h=>?_) λ_ q4 h=>?_
 ·exact gf h
 refine gi h (λ_ q5 h=>?_) λ_ q5 h=>?_
 ·exact gf h
 refine gi h (λ_ q6 h=>?_) λ_ q6 h=>?_
 ·exact gf h
 refine gi h (λ_ q7 h=>?_) λ_ q7 h=>?_
 ·exact gf h
 exact gf h
theorem sJ:∀ (nf:Nat) (r_:aa) (level:Int) (aG:Nat) {q} (h:bC nf r_ level=Rk q),dS Rn 148 [.hp 0 aG 2 0 0,I level] [Rk ⟨aG,2,174,[(aa.c r_)]⟩] (.agg<|ae.c q.2) [Rk ⟨aG,2,174,[(aa.c q.1)]⟩]:=by
 intro nf
 induction nf with
 | zero=>intros;rename_i h;cases h
 | succ nf ih=>
  intro r_ level aG q h;replace h:dD (bC nf) r_ level=Rk q:=h;refine aM func148 Z (by kernel_rfl) Z<|go h λ_ h=>?_;refine Rb h (λ_ q1 h=>?_) λ_ q1 h=>?_
  ·refine go h λ_ h=>?_;refine jB h λv2 cv2 h=>oA (EvA.call Z Z Z<|(pQ (bC nf) ih (⟨r_.rest,r_.failed⟩:aa) aG cv2).one 0 Z (.cons (.hp Z) .nil) (ak Z) (ak Z) Z)<|go h λ_ h=>?_;obtain rfl:=QU h
   repeat (first|refine n9 ?_|refine og ?_)
   exact ⟨ai [(4,.fp (ae.c (⟨v2.2.Op,v2.2.Name,v2.2.Kids⟩:ae)) 0)],[Rk ⟨aG,2,174,[(aa.c (⟨v2.1.rest,v2.1.failed⟩:aa))]⟩],Re,jQ (vs:=[.agg (ae.c (⟨v2.2.Op,v2.2.Name,v2.2.Kids⟩:ae))]) (.cons (.cellF (.agg<|ae.c (⟨v2.2.Op,v2.2.Name,v2.2.Kids⟩:ae)) Fg Z Z) .nil) ⟨Z,Z⟩⟩
  refine go h λf h=>?_;obtain ⟨g3,_⟩:=f;refine jB h λv4 cv4 h=>oA (EvA.call Z Z Z<|(ih (⟨r_.rest,r_.failed⟩:aa) (level-V) aG cv4).one 0 Z (.cons (.hp Z)<|.cons (.pF Z) .nil) (ak Z) (ak Z) Z)<|go h λ_ h=>?_;refine tU h (λs7=>[(5,.hp 2 0 3 0 0),(4,.hp 1 0 3 0 0),(0,.hp 0 aG 2 0 0),(1,I level)]) (λs7=>[Rk ⟨aG,2,174,[[St s7.1,Bo s7.2.1]]⟩,Rk ⟨0,3,116,[[I U,St (⟨#[]⟩:BA),.nil]]⟩,Rk ⟨0,3,116,[[I s7.2.2.1,St s7.2.2.2.1,eL ZTE.c s7.2.2.2.2]]⟩]) λs7 ws7 h=>?_;let d0:=(⟨s7.2.2.1,s7.2.2.2.1,s7.2.2.2.2⟩:ae);refine go h λ_ h=>?_;refine T.jU h (λs9=>[(6,I s9.2.2),(5,.hp 2 0 3 0 0),(4,.hp 1 0 3 0 0),(0,.hp 0 aG 2 0 0),(1,I level)]) (λs9=>[Rk ⟨aG,2,174,[[St s9.1,Bo s9.2.1]]⟩,Rk ⟨0,3,116,[[I U,St (⟨#[]⟩:BA),.nil]]⟩,Rk ⟨0,3,116,[[I s7.2.2.1,St s7.2.2.2.1,eL ZTE.c s7.2.2.2.2]]⟩]) (λs9 h=>?_) λs9 h=>?_
  ·refine Rb h (λ_ q25 h=>?_) λ_ q25 h=>?_
   ·refine go h λ_ h=>?_;refine lX h λh=>?_;obtain rfl:=QU h
    repeat (first|refine n9 ?_|refine og ?_)
    exact ⟨ai [(4,.fp (ae.c d0) 0)],[Rk ⟨aG,2,174,[(aa.c (⟨s9.1,s9.2.1⟩:aa))]⟩],Re,jQ (vs:=[.agg (ae.c d0)]) (.cons (.cellF (.agg<|ae.c d0) Fg Z Z) .nil) ⟨Z,Z⟩⟩
   refine go h λ_ h=>?_;refine jP (dG [dF,([2],Rj),dF,dF,dF,([0],Ri),dF,dF,([2],Ri)]) (by kernel_rfl) (by kernel_rfl)<|go h λ_ h=>?_;refine jB h λv26 cv26 h=>fW 0 [] Z Z (λG hG=>EvA.call Z Z Z<|(ih (⟨s9.1,s9.2.1⟩:aa) (level-V) aG cv26).one 0 (hG.a0 Z) (.cons (.hp Z)<|.cons (.pF Z) .nil) (ak Z) (ak Z) Z)<|fN Z (QR.res (QR.mkF (c:=ae.c) ([d0,v26.2]:List ae) [[I s7.2.2.1,St s7.2.2.2.1,eL ZTE.c s7.2.2.2.2],(ae.c v26.2)] El Z Z Z qD ae.isF Z) (r':=eL ZTE.c ([d0.inn,v26.2.inn]:List ZTE)) λ_ _ hr=>F4 ae.inn_c hr) ?_;refine go h λ_ h=>?_;exact lE h Re
  refine go h λ_ h=>?_;refine oN (QR.mkF (c:=cI) ([(2:Int),(3:Int),(4:Int),(5:Int)]:LI) [[I (2:Int)],[I (3:Int)],[I (4:Int)],[I (5:Int)]] iI Z Z Z qD qD Z)<|go h λ_ h=>?_;refine tU h (λs12=>[(22,I s12.2.2.1),(21,I (([(2:Int),(3:Int),(4:Int),(5:Int)]:LI).length:Int)),(20,eL cI ([(2:Int),(3:Int),(4:Int),(5:Int)]:LI)),(6,I s12.2.2.2),(5,.hp 2 0 3 0 0),(4,.hp 1 0 3 0 0),(0,.hp 0 aG 2 0 0),(1,I level)]) (λs12=>[Rk ⟨aG,2,174,[[St s12.1,Bo s12.2.1]]⟩,Rk ⟨0,3,116,[[I U,St (⟨#[]⟩:BA),.nil]]⟩,Rk ⟨0,3,116,[[I s7.2.2.1,St s7.2.2.2.1,eL ZTE.c s7.2.2.2.2]]⟩]) λs12 ws12 h=>?_;refine go h λ_ h=>?_;refine jH ?_;refine jN Z h (λq14 h=>?_) λq14 h=>?_
  ·refine go h λ_ h=>?_;refine T.jU h (λs15=>[(6,I s15.2.2),(22,I s12.2.2.1),(21,I (([(2:Int),(3:Int),(4:Int),(5:Int)]:LI).length:Int)),(20,eL cI ([(2:Int),(3:Int),(4:Int),(5:Int)]:LI)),(5,.hp 2 0 3 0 0),(4,.hp 1 0 3 0 0),(0,.hp 0 aG 2 0 0),(1,I level)]) (λs15=>[Rk ⟨aG,2,174,[[St s15.1,Bo s15.2.1]]⟩,Rk ⟨0,3,116,[[I U,St (⟨#[]⟩:BA),.nil]]⟩,Rk ⟨0,3,116,[[I s7.2.2.1,St s7.2.2.2.1,eL ZTE.c s7.2.2.2.2]]⟩]) (λs15 h=>?_) λs15 h=>?_
   ·refine go h λ_ h=>?_;exact lE h Re
   refine go h λ_ h=>?_;refine oC h (λ_=>nS _) Z Z Z Z λv17 _ h=>(go h λ_ h=>?_);refine TO.jB h 4 (λs18=>[(38,Bo s18),(10,St v17.2.1),(8,I<|J ([(2:Int),(3:Int),(4:Int),(5:Int)]:LI) s12.2.2.1),(22,I s12.2.2.1),(21,I (([(2:Int),(3:Int),(4:Int),(5:Int)]:LI).length:Int)),(20,eL cI ([(2:Int),(3:Int),(4:Int),(5:Int)]:LI)),(6,I s12.2.2.2),(5,.hp 2 0 3 0 0),(4,.hp 1 0 3 0 0),(0,.hp 0 aG 2 0 0),(1,I level)]) (λs18=>[Rk ⟨aG,2,174,[[St s12.1,Bo s12.2.1]]⟩,Rk ⟨0,3,116,[[I U,St (⟨#[]⟩:BA),.nil]]⟩,Rk ⟨0,3,116,[[I s7.2.2.1,St s7.2.2.2.1,eL ZTE.c s7.2.2.2.2]]⟩]) (λs18 q19 h js18=>?_) (λs18 q19 h js18=>?_) λs18 h=>?_
   ·exact gj h js18
   ·exact gj h js18
   refine go h λ_ h=>?_;rcases CE h with ⟨q20,h⟩ | ⟨q20,h⟩
   ·refine go h λ_ h=>?_;refine jB h λv22 cv22 h=>gA Z q20 (EvA.call Z Z Z<|(cF (⟨s12.1,s12.2.1⟩:aa) ((v17.2.1.data.getD U.toNat 0).toNat:Int) aG cv22).one 0 Z (.cons (.hp Z)<|.cons (.pF Z) .nil) (ak Z) (ak Z) Z)<|gp h λ_ h=>?_;refine gi h (λ_ q23 h=>?_) λ_ q23 h=>?_
    ·refine go h λ_ h=>?_
     cases h
     exact ⟨(),trivial,Re⟩
    refine go h λ_ h=>?_
    cases h
    exact ⟨(),trivial,Re⟩
   refine gp h λ_ h=>?_;refine go h λ_ h=>?_;refine T.cond Z (λq=>absurd (q.symm.trans Z)<|by decide) λ_=>?_;refine go h λ_ h=>?_
   cases h
   exact ⟨(),trivial,Re⟩
  refine jM<|lX h λh=>?_
  cases h
  exact ⟨(),trivial,Re⟩
theorem tQ (r_:aa) (level:Int) (aG:Nat) {q} (h:iX r_ level=Rk q):dS Rn 148 [.hp 0 aG 2 0 0,I level] [Rk ⟨aG,2,174,[(aa.c r_)]⟩] (.agg<|ae.c q.2) [Rk ⟨aG,2,174,[(aa.c q.1)]⟩]:=by
 obtain ⟨nf,h⟩:=rW h;exact sJ nf r_ level aG h
theorem m7 (s:List BA) (v:BA) {q} (h:bH s v=Rk q):ax Rn 259 [eL cS s,St v] (Bo q):=by
 refine pM func259 Z (by kernel_rfl) Z<|go h λ_ h=>?_;refine oC h (λ_=>ij _ _) Z Z Z Z λv1 _ h=>?_;exact gz h
theorem yK (name:BA) {q} (h:lg name=Rk q):ax Rn 214 [St name] (Bo q):=by
 refine pM func214 Z (by kernel_rfl) Z<|go h λ_ h=>?_;refine oN (QR.slG (c:=cS) EM Tryz.underlying255 ty9 Z Z Z Ll)<|go h λ_ h=>?_;refine oC h (λ_=>m7 _ _) Z Z Z Z λv1 _ h=>?_;exact gz h
theorem zK:∀ (nf:Nat) (e_:ae) (most:Int) {q} (h:iN nf e_ most=Rk q),ax Rn 151 [.agg (ae.c e_),I most] (I q):=by
 intro nf
 induction nf with
 | zero=>intros;rename_i h;cases h
 | succ nf ih=>
  intro e_ most q h;replace h:lj (iN nf) e_ most=Rk q:=h;refine pM func151 Z (by kernel_rfl) Z<|go h λ_ h=>?_;refine eF Z Z Z<|go h λ_ h=>?_;refine oC h (λ_=>nS _) Z Z Z Z λv1 _ h=>(go h λ_ h=>?_);obtain ⟨Ks2,es2,ws2,h,ks2⟩:=sumL h;refine T.join (S:=Unit) (G:=Unit) (λs2=>Ks2 s2=Rk q) (λs2 gh=>True) (λs2 gh=>[(2,.fp (ae.c e_) 0),(1,I most)]) (λs2 gh=>[]) (λs2 gh h hg=>?_) ?_
  ·clear ks2;subst es2;refine go h λ_ h=>?_;refine T.jU h (λs10=>[(8,I s10)]) (λs10=>[]) (λs10 h=>?_) λs10 h=>?_
   ·exact gz h
   refine go h λ_ h=>?_;refine tU h (λs13=>[(49,I s13.1),(48,I (e_.Kids.length:Int)),(47,eL ZTE.c e_.Kids),(8,I s13.2),(1,I most)]) (λs13=>[]) λs13 ws13 h=>?_;refine go h λ_ h=>?_;refine jH ?_;refine jN Z h (λq15 h=>?_) λq15 h=>?_
   ·refine go h λ_ h=>?_;refine gs h λ_ h=>?_;refine jD h λg16 h=>oN (QR.res (QR.ixL El Z Z g16 ZTE.len) (r' := .fp (ae.c (J e_.Kids s13.1).out) 0) λ_ _ hr=>zf (ZTE.out_c _) hr)<|go h λ_ h=>?_;refine oC h (λ_=>ih _ _) Z Z Z Z λv18 _ h=>?_;refine gi h (λ_ q20 h=>?_) λ_ q20 h=>?_
    ·refine jM<|lX h λh=>?_
     cases h
     exact ⟨(),trivial,Re⟩
    refine go h λ_ h=>?_;exact lE h Re
   refine jM<|lX h λh=>?_
   cases h
   exact ⟨(),trivial,Re⟩
  refine T.jU h (λs3=>[(45,Bo s3),(2,.fp (ae.c e_) 0),(1,I most)]) (λs3=>[]) (λs3 h=>?_) λs3 h=>?_
  ·refine jN Z h (λq9 h=>?_) λq9 h=>?_
   ·refine go h λ_ h=>?_;obtain rfl:=QU h;replace h:=congrArg Rk (show _=_ from ks2);exact gz h
   refine go h λ_ h=>?_
   cases h
   exact ⟨(),(),ks2,trivial,Re⟩
  refine T.drawG (λ_=>([],Rj)) (by kernel_rfl) (by kernel_rfl)<|go h λ_ h=>?_;rcases CE h with ⟨q4,h⟩ | ⟨q4,h⟩
  ·refine gp h λ_ h=>?_;refine gp h λ_ h=>?_;refine gp h λ_ h=>?_;refine go h λ_ h=>?_
   cases h
   exact ⟨(),trivial,Re⟩
  refine gp h λ_ h=>?_;refine go h λ_ h=>?_;rcases CE h with ⟨q5,h⟩ | ⟨q5,h⟩
  ·refine gp h λ_ h=>?_;refine gp h λ_ h=>?_;refine go h λ_ h=>?_
   cases h
   exact ⟨(),trivial,Re⟩
  refine go h λ_ h=>?_;refine jB h λv6 cv6 h=>tgN Z q5 Z (QR.call Z Z Z (yK e_.Name cv6) Z)<|tgN Z q5 Z (QR.bne bt4 Z Z) ?_;refine gp h λ_ h=>?_;refine go h λ_ h=>?_;rcases CE h with ⟨q7,h⟩ | ⟨q7,h⟩
  ·refine gp h λ_ h=>?_;refine go h λ_ h=>?_
   cases h
   exact ⟨(),trivial,Re⟩
  refine go h λ_ h=>?_;rcases CE h with ⟨q8,h⟩ | ⟨q8,h⟩
  ·refine go h λ_ h=>?_;refine tgN Z q7 Z (QR.pickT Z q8 (Bo<|!decide (e_.Name=(⟨#[]⟩:BA))) Z)<|gp h λ_ h=>?_;refine go h λ_ h=>?_
   cases h
   exact ⟨(),trivial,Re⟩
  refine go h λ_ h=>?_;refine tgN Z q7 Z (QR.pickF Z q8 (Bo Rj) Z)<|gp h λ_ h=>?_;refine go h λ_ h=>?_
  cases h
  exact ⟨(),trivial,Re⟩
theorem AK (e_:ae) (most:Int) {q} (h:rX e_ most=Rk q):ax Rn 151 [.agg (ae.c e_),I most] (I q):=by
 obtain ⟨nf,h⟩:=rW h;exact zK nf e_ most h
theorem oK (e_:ae) {q} (h:eD e_=Rk q):ax Rn 92 [.agg (ae.c e_)] (Bo q):=by
 refine pM func92 Z (by kernel_rfl) Z<|go h λ_ h=>?_;refine eF Z Z Z<|go h λ_ h=>?_;refine oC h (λ_=>AK _ _) Z Z Z Z λv1 _ h=>?_;exact gz h
theorem zL:∀ (nf:Nat) (e_:ae) (most:Int) {q} (h:iO nf e_ most=Rk q),ax Rn 213 [.agg (ae.c e_),I most] (St q):=by
 intro nf
 induction nf with
 | zero=>intros;rename_i h;cases h
 | succ nf ih=>
  intro e_ most q h;replace h:ll (iO nf) e_ most=Rk q:=h;refine pM func213 Z (by kernel_rfl) Z<|go h λ_ h=>?_;refine eF Z Z Z<|go h λ_ h=>?_;refine oC h (λ_=>nS _) Z Z Z Z λv1 _ h=>(go h λ_ h=>?_);refine T.jU h (λs2=>[(8,St s2),(5,I v1.1),(1,I most)]) (λs2=>[]) (λs2 h=>?_) λs2 h=>?_
  ·refine Rb h (λ_ q15 h=>?_) λ_ q15 h=>?_
   ·exact gz h
   exact gz h
  refine gi h (λ_ q3 h=>?_) λ_ q3 h=>?_
  ·refine go h λ_ h=>?_;refine jD h λg4 h=>oN (QR.res (QR.ixL El Z Z g4 ZTE.len) (r' := .fp (ae.c (J e_.Kids U).out) 0) λ_ _ hr=>zf (ZTE.out_c _) hr)<|go h λ_ h=>?_;refine oC h (λ_=>ih _ _) Z Z Z Z λv5 _ h=>(go h λ_ h=>?_)
   cases h
   exact ⟨(),trivial,Re⟩
  refine gi h (λ_ q7 h=>?_) λ_ q7 h=>?_
  ·refine T.cl [6,5,2,1] Z<|T.drawP (by kernel_rfl) (by kernel_rfl) ?_;refine go h λ_ h=>?_;refine jD h λg8 h=>fN Z (QR.res (QR.ixL El Z Z g8 ZTE.len) (r' := .fp (ae.c (J e_.Kids U).out) 0) λ_ _ hr=>zf (ZTE.out_c _) hr)<|go h λ_ h=>?_;refine fC h (λ_=>ih _ _) Z Z Z Z Z λv9 _ h=>(go h λ_ h=>?_);refine jD h λg11 h=>fN Z (QR.res (QR.ixL El Z Z g11 ZTE.len) (r' := .fp (ae.c (J e_.Kids V).out) 0) λ_ _ hr=>zf (ZTE.out_c _) hr)<|go h λ_ h=>?_;refine fC h (λ_=>ih _ _) Z Z Z Z Z λv13 _ h=>(go h λ_ h=>?_)
   cases h
   exact ⟨(),trivial,Re⟩
  refine go h λ_ h=>?_
  cases h
  exact ⟨(),trivial,Re⟩
theorem AL (e_:ae) (most:Int) {q} (h:rY e_ most=Rk q):ax Rn 213 [.agg (ae.c e_),I most] (St q):=by
 obtain ⟨nf,h⟩:=rW h;exact zL nf e_ most h
theorem nC (e_:ae) {q} (h:dP e_=Rk q):ax Rn 149 [.agg (ae.c e_)] (St q):=by
 refine pM func149 Z (by kernel_rfl) Z<|go h λ_ h=>?_;refine eF Z Z Z<|go h λ_ h=>?_;refine gs h λ_ h=>?_;refine oC h (λ_=>oK _) Z Z Z Z λv1 _ h=>?_;refine gi h (λ_ q2 h=>?_) λ_ q2 h=>?_
 ·exact gz h
 refine go h λ_ h=>?_;refine oC h (λ_=>AL _ _) Z Z Z Z λv3 _ h=>?_;exact gz h
theorem vJ (text:BA) {q} (h:iw text=Rk q):ax Rn 88 [St text] (.tup [.agg (ae.c q.1),Bo q.2]):=by
 refine pM func88 Z (by kernel_rfl) Z<|go h λ_ h=>?_;refine Rb h (λ_ q1 h=>?_) λ_ q1 h=>?_
 ·exact gf h
 refine go h λ_ h=>?_;refine eB Z Z<|go h λ_ h=>?_;refine jB h λv2 cv2 h=>oA (EvA.call Z Z Z<|(tQ (⟨text,Rj⟩:aa) (3:Int) 0 cv2).one 1 Z (.cons (.hp Z)<|.cons (.pF Z) .nil) (ak Z) (ak Z) Z)<|go h λ_ h=>?_;refine gs h λ_ h=>?_;refine TO.jB h 6 (λs3=>[(25,Bo s3),(5,.hp 2 0 3 0 0),(2,.hp 0 0 3 0 0),(0,St text)]) (λs3=>[Rk ⟨0,3,116,[[I U,St (⟨#[]⟩:BA),.nil]]⟩,Rk ⟨0,2,174,[(aa.c v2.1)]⟩,Rk ⟨0,3,116,[(ae.c v2.2)]⟩]) (λs3 q4 h js3=>?_) (λs3 q4 h js3=>?_) λs3 h=>?_
 ·exact gj h js3
 ·refine go h λ_ h=>?_;refine gA Z q4 (lh (St v2.1.rest) ty9 Z Z Z) ?_;exact gj h js3
 refine go h λ_ h=>?_;refine TO.jB h 3 (λs5=>[(29,Bo s5),(5,.hp 2 0 3 0 0),(2,.hp 0 0 3 0 0),(0,St text)]) (λs5=>[Rk ⟨0,3,116,[[I U,St (⟨#[]⟩:BA),.nil]]⟩,Rk ⟨0,2,174,[(aa.c v2.1)]⟩,Rk ⟨0,3,116,[(ae.c v2.2)]⟩]) (λs5 q6 h js5=>?_) (λs5 q6 h js5=>?_) λs5 h=>?_
 ·exact gj h js5
 ·exact gj h js5
 refine go h λ_ h=>?_;refine TO.jB h 5 (λs7=>[(35,Bo s7),(5,.hp 2 0 3 0 0),(2,.hp 0 0 3 0 0)]) (λs7=>[Rk ⟨0,3,116,[[I U,St (⟨#[]⟩:BA),.nil]]⟩,Rk ⟨0,2,174,[(aa.c v2.1)]⟩,Rk ⟨0,3,116,[(ae.c v2.2)]⟩]) (λs7 q8 h js7=>?_) (λs7 q8 h js7=>?_) λs7 h=>?_
 ·exact gj h js7
 ·refine gA Z q8 (lh (.agg<|ae.c v2.2) Fg Z Z Z)<|jB h λv9 cv9 h=>gN Z q8 (QR.call Z Z Z (nC (⟨v2.2.Op,v2.2.Name,v2.2.Kids⟩:ae) cv9) Z) ?_;exact gj h js7
 refine gi h (λ_ q10 h=>?_) λ_ q10 h=>?_
 ·exact gf h
 exact gf h
theorem vK (x:Int) (low:Int) (high:Int) {q} (h:mE x low high=Rk q):ax Rn 77 [I x,I low,I high] (Bo q):=by
 refine pM func77 Z (by kernel_rfl) Z<|go h λ_ h=>?_;refine TO.jB h 4 (λs1=>[(14,Bo s1)]) (λs1=>[]) (λs1 q2 h js1=>?_) (λs1 q2 h js1=>?_) λs1 h=>?_
 ·exact gj h js1
 ·exact gj h js1
 exact gz h
theorem vL (r_:aj) {q} (h:iy r_=Rk q):ax Rn 91 [.agg (aj.c r_)] (Bo q):=by
 refine pM func91 Z (by kernel_rfl) Z<|go h λ_ h=>?_;refine eF Z Z Z<|go h λ_ h=>?_;refine oC h (λ_=>vK _ _ _) Z Z Z Z λv1 _ h=>(go h λ_ h=>?_);refine TO.jB h 5 (λs2=>[(12,Bo s2)]) (λs2=>[]) (λs2 q3 h js2=>?_) (λs2 q3 h js2=>?_) λs2 h=>?_
 ·exact gj h js2
 ·refine go h λ_ h=>?_;refine jB h λv4 cv4 h=>gN Z q3 (QR.call Z Z Z (oK r_.Expr cv4) Z) ?_;exact gj h js2
 exact gz h
theorem di (s:List aj) {q} (h:aB s=Rk q):ax Rn 150 [eL aj.c s,.fn (.func 91) []] (I q):=by
 refine pM func150 Z (by kernel_rfl) Z<|go h λ_ h=>?_;obtain ⟨Ks1,es1,ws1,h,ks1⟩:=sumL h;refine T.join (S:=Unit) (G:=Unit) (λs1=>Ks1 s1=Rk q) (λs1 gh=>True) (λs1 gh=>[]) (λs1 gh=>[]) (λs1 gh h hg=>?_) ?_
 ·clear ks1;subst es1;exact gz h
 refine go h λ_ h=>?_;refine tU h (λs4=>[(8,I s4),(7,I (s.length:Int)),(0,eL aj.c s),(1,.fn (.func 91) [])]) (λs4=>[]) λs4 ws4 h=>?_;refine go h λ_ h=>?_;refine jH ?_;refine jN Z h (λq6 h=>?_) λq6 h=>?_
 ·refine go h λ_ h=>?_;refine gs h λ_ h=>?_;refine oC h (λ_=>vL _) Z Z Z Z λv8 _ h=>?_;refine gi h (λ_ q9 h=>?_) λ_ q9 h=>?_
  ·refine go h λ_ h=>?_;refine lX h λh=>?_;obtain rfl:=QU h;replace h:=congrArg Rk (show _=_ from ks1);exact gz h
  refine go h λ_ h=>?_;exact lE h Re
 refine jM<|lX h λh=>?_
 cases h
 exact ⟨(),(),ks1,trivial,Re⟩
theorem cH (s:List aj) {q} (h:ay s=Rk q):ax Rn 90 [eL aj.c s,.fn (.func 91) []] (Bo q):=by
 refine pM func90 Z (by kernel_rfl) Z<|go h λ_ h=>?_;refine oC h (λ_=>di _) Z Z Z Z λv1 _ h=>?_;exact gz h
theorem rq (m:List aj) {q} (h:dY m=Rk q):ax Rn 38 [eL aj.c m] (Bo q):=by
 refine pM func38 Z (by kernel_rfl) Z<|go h λ_ h=>?_;refine oC h (λ_=>vK _ _ _) Z Z Z Z λv1 _ h=>(go h λ_ h=>?_);refine TO.jB h 4 (λs2=>[(10,Bo s2)]) (λs2=>[]) (λs2 q3 h js2=>?_) (λs2 q3 h js2=>?_) λs2 h=>?_
 ·refine go h λ_ h=>?_;refine jB h λv4 cv4 h=>gN Z q3 (QR.call Z Z Z (cH m cv4) Z) ?_;exact gj h js2
 ·exact gj h js2
 exact gz h
theorem wB (m:List aj) {q} (h:je m=Rk q):ax Rn 89 [eL aj.c m] (St q):=by
 refine pM func89 Z (by kernel_rfl) Z<|go h λ_ h=>?_;refine gs h λ_ h=>?_;refine oC h (λ_=>rq _) Z Z Z Z λv1 _ h=>?_;refine gi h (λ_ q2 h=>?_) λ_ q2 h=>?_
 ·exact gz h
 refine go h λ_ h=>?_;refine jD h λg3 h=>oA (EvA.mkN (c:=cS) (Rh:BA) Pk Z Z g3 Z Z Z)<|go h λ_ h=>?_;refine tJ h (λs4 gh=>[(3,hS Rj 0 gh 1 s4.length)]) (λs4 gh=>[bE Rj gh 1 9 (s4.map cS)]) (λs4 u19 h=>?_) λs4 h=>?_
 ·refine go h λ_ h=>?_;refine jB h λv20 cv20 h=>oA (EvA.callT Z Z (Az s4 (⟨#[47]⟩:BA) cv20) (.cons (Fz.own (g:=false) (ver:=u19) (l:=s4) Z Z Z nofun qD)<|.cons (qC Z) .nil) Z) ?_;exact gz h
 refine go h λ_ h=>?_;refine tT h 0 (λs8 gh=>[(14,I s8.2),(13,I (m.length:Int)),(12,eL aj.c m),(3,hS Rj 0 gh 1 s8.1.length)]) (λs8 gh=>[bE Rj gh 1 9 (s8.1.map cS)]) λs8 u10 ws8 h=>?_;let d0:=(J m s8.2).Kind;refine go h λ_ h=>?_;refine jH ?_;refine jN Z h (λq11 h=>?_) λq11 h=>?_
 ·refine go h λ_ h=>?_;refine gs h λ_ h=>?_;refine jP (dG [dF,dF,dF,([1],Rj),dF,dF,dF,dF,([1],Rj),dF,dF,dF,([0],Ri)]) (by kernel_rfl) (by kernel_rfl)<|go h λ_ h=>?_;refine jD h λg13 h=>fN Z (QR.ixafp Tryz.underlying113 ty9 Z Z g13)<|fN Z (QR.ldG (c:=cS) (l:=CK) (St<|J CK d0) ty9 Z Nf (aQ (l:=CK) Z g13) Z Z) ?_;refine go h λ_ h=>?_;refine fC h (λ_=>nC _) Z Z Z Z Z λv15 _ h=>(go h λf h=>?_);obtain ⟨g17,_⟩:=f;refine fV 0 [] Z Z (λG hG=>EvA.stO (g:=false) (l:=s8.1) (cs:=[St (((J CK d0)++(⟨#[32]⟩:BA))++v15)]) (((J CK d0)++(⟨#[32]⟩:BA))++v15) ty9 Z Z (hG.a0 Z) nofun (aQ Z g17) Z Z Z)<|go h λ_ h=>?_;obtain rfl:=QU h;exact ⟨((s8.1.set s8.2.toNat<|((J CK d0)++(⟨#[32]⟩:BA))++v15),(s8.2+(1:Int))),u10,Z,trivial,uY Z (.cons (.list (g:=false) (ver:=u10) (l:=(s8.1.set s8.2.toNat<|((J CK d0)++(⟨#[32]⟩:BA))++v15)) qD) .nil)<|au (.fz<|qC Z)<|au (.fz<|qC Z)<|au (.fz<|qC Z)<|au (.eqv (congrArg (hS Rj 0 u10 1) (by simp:s8.1.length=(s8.1.set s8.2.toNat<|((J CK d0)++(⟨#[32]⟩:BA))++v15).length))<|.hS (g:=false) (b:=0) (ver:=u10) (s:=1) (n:=(s8.1.set s8.2.toNat<|((J CK d0)++(⟨#[32]⟩:BA))++v15).length) Z) bB⟩
 refine jM<|lX h λh=>?_
 cases h
 exact ⟨u10,trivial,Re⟩
theorem xp (text:BA) {q} (h:kz text=Rk q):ax Rn 36 [St text] (.tup [eL aj.c q.1,Bo q.2]):=by
 refine pM func36 Z (by kernel_rfl) Z<|jI ?_;refine gq h λ_ h=>?_;refine jH<|T.reserve ?_;refine go h λ_ h=>?_;obtain ⟨Ks1,es1,ws1,h,ks1⟩:=sumL h;refine T.join (S:=(List aj)) (G:=(Bool×Nat)) (λs1=>Ks1 s1=Rk q) (λs1 gh=>(gh.1=Ri->s1=[])) (λs1 gh=>[(4,hS gh.1 0 gh.2 4 s1.length),(0,St text)]) (λs1 gh=>[bE gh.1 gh.2 4 120 (s1.map aj.c)]) (λs1 gh h n25=>?_) ?_
 ·clear ks1;subst es1;obtain ⟨b24,u23⟩:=gh;refine gs h λ_ h=>?_;refine jB h λv26 cv26 h=>oA (EvA.callT Z Z (wB s1 cv26) (.cons (Fz.own (g:=b24) (ver:=u23) (l:=s1) Z Z Z n25 aj.isF) .nil) Z) ?_;refine gi h (λ_ q27 h=>?_) λ_ q27 h=>?_
  ·exact gf h
  exact gf h
 refine go h λ_ h=>?_;refine oC h (λ_=>zJ _ _) Z Z Z Z λv2 _ h=>(go h λ_ h=>?_);refine tL h (Ri,0) (λs8 gh=>(gh.1=Ri->s8.1=[])) (λs8 gh=>[(16,I s8.2),(15,I (v2.length:Int)),(14,eL cS v2),(4,hS gh.1 0 gh.2 4 s8.1.length),(0,St text)]) (λs8 gh=>[bE gh.1 gh.2 4 120 (s8.1.map aj.c)]) qD λs8 gh ws8 h n12=>?_;obtain ⟨b11,u10⟩:=gh;refine go h λ_ h=>?_;refine jH ?_;refine jN Z h (λq13 h=>?_) λq13 h=>?_
 ·refine go h λ_ h=>?_;refine gs h λ_ h=>?_;refine oC h (λ_=>Cr _ _) Z Z Z Z λv15 _ h=>(go h λ_ h=>?_);refine oN (QR.slG (c:=cS) CK Tryz.underlying113 ty9 Z Z Z Lj)<|go h λ_ h=>?_;refine oC h (λ_=>ij _ _) Z Z Z Z λv16 _ h=>(go h λ_ h=>?_);refine oC h (λ_=>vJ _) Z Z Z Z λv17 _ h=>(go h λ_ h=>?_);refine gs h λ_ h=>?_;refine TO.jB h 3 (λs18=>[(39,Bo s18),(11,.hp 1 0 3 0 0),(10,I v16),(16,I s8.2),(15,I (v2.length:Int)),(14,eL cS v2),(4,hS b11 0 u10 4 s8.1.length),(0,St text)]) (λs18=>[bE b11 u10 4 120 (s8.1.map aj.c),Rk ⟨0,3,116,[[I v17.1.Op,St v17.1.Name,eL ZTE.c v17.1.Kids]]⟩]) (λs18 q19 h js18=>?_) (λs18 q19 h js18=>?_) λs18 h=>?_
  ·exact gj h js18
  ·exact gj h js18
  refine gi h (λ_ q20 h=>?_) λ_ q20 h=>?_
  ·refine go h λ_ h=>?_;refine lX h λh=>?_;obtain rfl:=QU h;replace h:=congrArg Rk (show _=_ from ks1);exact gf h
  refine go h λ_ h=>?_;refine oN (QR.mkF (c:=aj.c) ([(⟨v16,(⟨v17.1.Op,v17.1.Name,v17.1.Kids⟩:ae)⟩:aj)]:List aj) [[I v16,I v17.1.Op,St v17.1.Name,eL ZTE.c v17.1.Kids]] QJ Z Z Z qD aj.isF Z)<|go h λ_ h=>?_;obtain rfl:=QU h;exact ⟨((s8.1++[(⟨v16,(⟨v17.1.Op,v17.1.Name,v17.1.Kids⟩:ae)⟩:aj)]),(s8.2+V)),(Rj,u10+1),Z,nofun,Re⟩
 refine jM<|lX h λh=>?_;obtain rfl:=QU h;exact ⟨s8.1,(b11,u10),ks1,n12,Re⟩
theorem AO (name:BA) {q} (h:kT name=Rk q):ax Rn 11 [St name] (.tup [eL aj.c q.1,Bo q.2]):=by
 refine pM func11 Z (by kernel_rfl) Z<|go h λ_ h=>?_;refine oC h (λ_=>yJ _) Z Z Z Z λv1 _ h=>oC h (λ_=>xp _) Z Z Z Z λv2 _ h=>?_;exact gf h
theorem nD (x:QW) (loc:Int) (i:Int) (k_:Int) {q} (h:dQ x loc i k_=Rk q):ax Rn 260 [.agg (QW.c x),I loc,I i,I k_] (Bo q):=by
 refine pM func260 Z (by kernel_rfl) Z<|go h λ_ h=>?_;refine eF Z Z Z<|go h λ_ h=>?_;refine jH<|T.drawP (by kernel_rfl) (by kernel_rfl) ?_;refine go h λf h=>?_;obtain ⟨g1,_⟩:=f;refine fC h (λ_=>gY _ _) Z Z Z Z Z λv2 _ h=>(go h λ_ h=>?_);refine fC h (λ_=>gY _ _) Z Z Z Z Z λv3 _ h=>(go h λ_ h=>?_);refine TO.jB h 3 (λs4=>[(30,Bo s4),(10,I v3),(9,I v2)]) (λs4=>[]) (λs4 q5 h js4=>?_) (λs4 q5 h js4=>?_) λs4 h=>?_
 ·exact gj h js4
 ·exact gj h js4
 refine go h λ_ h=>?_;refine TO.jB h 4 (λs6=>[(35,Bo s6)]) (λs6=>[]) (λs6 q7 h js6=>?_) (λs6 q7 h js6=>?_) λs6 h=>?_
 ·exact gj h js6
 ·exact gj h js6
 exact gz h
theorem zM (y:QV) {q} (h:qN y=Rk q):ax Rn 262 [.agg (QV.c y)] (Bo q):=by
 refine pM func262 Z (by kernel_rfl) Z<|go h λ_ h=>?_;refine eF Z Z Z ?_;exact gz h
theorem dB (s:List QV) {q} (h:aO s=Rk q):ax Rn 279 [eL QV.c s,.fn (.func 262) []] (I q):=by
 refine pM func279 Z (by kernel_rfl) Z<|go h λ_ h=>?_;obtain ⟨Ks1,es1,ws1,h,ks1⟩:=sumL h;refine T.join (S:=Unit) (G:=Unit) (λs1=>Ks1 s1=Rk q) (λs1 gh=>True) (λs1 gh=>[]) (λs1 gh=>[]) (λs1 gh h hg=>?_) ?_
 ·clear ks1;subst es1;exact gz h
 refine go h λ_ h=>?_;refine tU h (λs4=>[(8,I s4),(7,I (s.length:Int)),(0,eL QV.c s),(1,.fn (.func 262) [])]) (λs4=>[]) λs4 ws4 h=>?_;refine go h λ_ h=>?_;refine jH ?_;refine jN Z h (λq6 h=>?_) λq6 h=>?_
 ·refine go h λ_ h=>?_;refine gs h λ_ h=>?_;refine oC h (λ_=>zM _) Z Z Z Z λv8 _ h=>?_;refine gi h (λ_ q9 h=>?_) λ_ q9 h=>?_
  ·refine go h λ_ h=>?_;refine lX h λh=>?_;obtain rfl:=QU h;replace h:=congrArg Rk (show _=_ from ks1);exact gz h
  refine go h λ_ h=>?_;exact lE h Re
 refine jM<|lX h λh=>?_
 cases h
 exact ⟨(),(),ks1,trivial,Re⟩
theorem cZ (s:List QV) {q} (h:aA s=Rk q):ax Rn 261 [eL QV.c s,.fn (.func 262) []] (Bo q):=by
 refine pM func261 Z (by kernel_rfl) Z<|go h λ_ h=>?_;refine oC h (λ_=>dB _) Z Z Z Z λv1 _ h=>?_;exact gz h
theorem iJ (e_:QX) (writes:Bool) {q} (h:db e_ writes=Rk q):ax Rn 263 [.agg (QX.c e_),Bo writes] (Bo q):=by
 refine pM func263 Z (by kernel_rfl) Z<|go h λ_ h=>?_;refine eF Z Z Z<|go h λ_ h=>?_;refine oN (QR.beq bt4 Z Z)<|go h λ_ h=>?_;refine TO.jB h 5 (λs1=>[(14,Bo s1)]) (λs1=>[]) (λs1 q2 h js1=>?_) (λs1 q2 h js1=>?_) λs1 h=>?_
 ·refine go h λ_ h=>?_;refine gN Z q2 (QR.bne bt4 Z Z) ?_;exact gj h js1
 ·exact gj h js1
 exact gz h
theorem Cs (p:List<|List QV) (x:QW) (list:List QX) (name:BA) (i:Int) (k_:Int) {q} (h:qg p x list name i k_=Rk q):ax Rn 217 [eL (cL QV.c) p,.agg (QW.c x),eL QX.c list,St name,I i,I k_] (Bo q):=by
 let d1:=QX.c<|J list i;let d0:=QX.c<|J list k_;refine pM func217 Z (by kernel_rfl) Z<|go h λ_ h=>?_;refine eF Z Z Z<|gq h λ_ h=>?_;refine jH<|T.reserve<|T.reserve<|jP (dG [dF,dF,dF,dF,dF,dF,dF,dF,([0],Ri),([1],Ri),([0],Ri),([1],Ri)]) (by kernel_rfl) (by kernel_rfl) ?_;refine go h λ_ h=>?_;refine fW 0 [] Z Z (λG hG=>EvA.alR 0 P8 Z Z<|hG.a0 Z)<|fW 1 [] Z Z (λG hG=>EvA.alR 1 P8 Z Z<|hG.a0 Z) ?_;refine go h λ_ h=>?_;refine TO.jB h 6 (λs3=>[(33,Bo s3),(14,.hp 1 0 5 0 0),(13,.hp 0 0 5 0 0),(7,.fp (QW.c x) 0),(0,eL (cL QV.c) p),(3,St name),(4,I i),(5,I k_)]) (λs3=>[Rk ⟨0,5,60,[d1]⟩,Rk ⟨0,5,60,[d0]⟩]) (λs3 q4 h js3=>?_) (λs3 q4 h js3=>?_) λs3 h=>?_
 ·refine go h λ_ h=>?_;refine gA Z q4 (lh (I<|(J list i).Thread) Ra Z Z Z)<|go h λ_ h=>?_;refine gA Z q4 (lh (I<|(J list k_).Thread) Ra Z Z Z) ?_;exact gj h js3
 ·exact gj h js3
 refine go h λ_ h=>?_;refine TO.jB h 6 (λs5=>[(40,Bo s5),(14,.hp 1 0 5 0 0),(13,.hp 0 0 5 0 0),(7,.fp (QW.c x) 0),(0,eL (cL QV.c) p),(3,St name),(4,I i),(5,I k_)]) (λs5=>[Rk ⟨0,5,60,[d1]⟩,Rk ⟨0,5,60,[d0]⟩]) (λs5 q6 h js5=>?_) (λs5 q6 h js5=>?_) λs5 h=>?_
 ·refine go h λ_ h=>?_;refine gA Z q6 (lh (I<|(J list i).Index) Ra Z Z Z)<|go h λ_ h=>?_;refine gA Z q6 (lh (I<|(J list k_).Index) Ra Z Z Z) ?_;exact gj h js5
 ·exact gj h js5
 refine go h λ_ h=>?_;obtain ⟨Ks7,es7,ws7,h,ks7⟩:=sumL h;refine T.join (S:=Unit) (G:=Unit) (λs7=>Ks7 s7=Rk q) (λs7 gh=>True) (λs7 gh=>[(4,I i),(5,I k_)]) (λs7 gh=>[Rk ⟨0,5,60,[d1]⟩,Rk ⟨0,5,60,[d0]⟩]) (λs7 gh h hg=>?_) ?_
 ·clear ks7;subst es7;exact gz h
 refine gi h (λ_ q8 h=>?_) λ_ q8 h=>?_
 ·refine go h λ_ h=>?_;obtain rfl:=QU h;replace h:=congrArg Rk (show _=_ from ks7);exact gz h
 refine gi h (λ_ q9 h=>?_) λ_ q9 h=>?_
 ·refine go h λ_ h=>?_;obtain rfl:=QU h;replace h:=congrArg Rk (show _=_ from ks7);exact gz h
 refine gi h (λ_ q10 h=>?_) λ_ q10 h=>?_
 ·refine go h λ_ h=>?_;refine TO.jB h 4 (λs11=>[(63,Bo s11)]) (λs11=>[Rk ⟨0,5,60,[d1]⟩,Rk ⟨0,5,60,[d0]⟩]) (λs11 q12 h js11=>?_) (λs11 q12 h js11=>?_) λs11 h=>?_
  ·exact gj h js11
  ·refine go h λ_ h=>?_;refine gA Z q12 (lh (I<|(J list i).Thread) Ra Z Z Z) ?_;exact gj h js11
  refine go h λ_ h=>?_;obtain rfl:=QU h;replace h:=congrArg Rk (show _=_ from ks7);exact gz h
 refine gi h (λ_ q13 h=>?_) λ_ q13 h=>?_
 ·refine go h λ_ h=>?_;obtain rfl:=QU h;replace h:=congrArg Rk (show _=_ from ks7);exact gz h
 refine gi h (λ_ q15 h=>?_) λ_ q15 h=>?_
 ·refine go h λ_ h=>?_;refine oC h (λ_=>nD _ _ _ _) Z Z Z Z λv16 _ h=>(go h λ_ h=>?_);obtain rfl:=QU h;replace h:=congrArg Rk (show _=_ from ks7);exact gz h
 refine gi h (λ_ q17 h=>?_) λ_ q17 h=>?_
 ·refine T.jU h (λs18=>[(12,Bo s18)]) (λs18=>[Rk ⟨0,5,60,[d1]⟩,Rk ⟨0,5,60,[d0]⟩]) (λs18 h=>?_) λs18 h=>?_
  ·refine go h λ_ h=>?_;obtain rfl:=QU h;replace h:=congrArg Rk (show _=_ from ks7);exact gz h
  refine T.cl [14,13,7,4,5] Z<|T.drawG (dG [dF,([0],Rj),dF,dF,([1],Rj),dF,dF,dF,dF,dF,dF,dF,dF,dF,([0],Rj),dF,dF,dF,dF,dF,dF,dF,dF,dF]) (by kernel_rfl) (by kernel_rfl) ?_;refine go h λ_ h=>?_;rcases CE h with ⟨q19,h⟩ | ⟨q19,h⟩
  ·refine go h λ_ h=>?_;refine tgR Z q19 [1] Z (λG hG=>EvA.loadhp (Bo<|(J list k_).bK) ty4 Z (hG.a0 Z) Z Z Z Z)<|gp h λ_ h=>?_;refine go h λ_ h=>?_;rcases CE h with ⟨q20,h⟩ | ⟨q20,h⟩
   ·refine gp h λ_ h=>?_;refine go h λ_ h=>?_;rcases CE h with ⟨q21,h⟩ | ⟨q21,h⟩
    ·refine go h λ_ h=>?_;refine tgR Z q21 [0] Z (λG hG=>EvA.loadhp (I<|(J list i).Loc) Ra Z (hG.a0 Z) Z Z Z Z)<|go h λ_ h=>?_;refine jB h λv23 cv23 h=>tgN Z q21 Z (QR.call Z Z Z (nD x ((J list i).Loc) (J x.From i) k_ cv23) Z)<|gp h λ_ h=>?_;refine go h λ_ h=>?_
     cases h
     exact ⟨(),trivial,Re⟩
    refine gp h λ_ h=>?_;refine go h λ_ h=>?_
    cases h
    exact ⟨(),trivial,Re⟩
   refine gp h λ_ h=>?_;refine gp h λ_ h=>?_;refine go h λ_ h=>?_
   cases h
   exact ⟨(),trivial,Re⟩
  refine gp h λ_ h=>?_;refine gp h λ_ h=>?_;refine gp h λ_ h=>?_;refine go h λ_ h=>?_
  cases h
  exact ⟨(),trivial,Re⟩
 refine gi h (λ_ q24 h=>?_) λ_ q24 h=>?_
 ·refine T.jU h (λs25=>[(12,Bo s25)]) (λs25=>[Rk ⟨0,5,60,[d1]⟩,Rk ⟨0,5,60,[d0]⟩]) (λs25 h=>?_) λs25 h=>?_
  ·refine go h λ_ h=>?_;obtain rfl:=QU h;replace h:=congrArg Rk (show _=_ from ks7);exact gz h
  refine T.cl [15,14,13,0] Z<|T.drawG (dG [dF,dF,dF,dF,([0],Rj),dF,dF,dF,([0],Rj),dF,([1],Rj),dF,dF,dF,dF]) (by kernel_rfl) (by kernel_rfl) ?_;refine go h λ_ h=>?_;rcases CE h with ⟨q26,h⟩ | ⟨q26,h⟩
  ·refine go h λ_ h=>?_;refine tgR Z q26 [0] Z (λG hG=>EvA.loadhp (I<|(J list i).Thread) Ra Z (hG.a0 Z) Z Z Z Z)<|go h λ_ h=>?_;refine tgR Z q26 [0] Z (λG hG=>EvA.loadhp (I<|(J list i).Index) Ra Z (hG.a0 Z) Z Z Z Z)<|go h λ_ h=>?_;refine tgR Z q26 [1] Z (λG hG=>EvA.loadhp (I<|(J list k_).Index) Ra Z (hG.a0 Z) Z Z Z Z)<|jD h λg28 h=>tgN Z q26 Z (QR.slL Ek Z (.yes Z) (.yes Z) g28 qD)<|jB h λv29 cv29 h=>tgN Z q26 Z (QR.call Z Z Z (cZ (((J p<|(J list i).Thread).drop ((J list i).Index).toNat).take<|((J list k_).Index).toNat-((J list i).Index).toNat) cv29) Z) ?_;refine gp h λ_ h=>?_;refine go h λ_ h=>?_
   cases h
   exact ⟨(),trivial,Re⟩
  refine gp h λ_ h=>?_;refine go h λ_ h=>?_
  cases h
  exact ⟨(),trivial,Re⟩
 refine gi h (λ_ q30 h=>?_) λ_ q30 h=>?_
 ·refine go h λ_ h=>?_;refine oC h (λ_=>iJ _ _) Z Z Z Z λv31 _ h=>(go h λ_ h=>?_);refine TO.jB h 3 (λs32=>[(129,Bo s32)]) (λs32=>[Rk ⟨0,5,60,[d1]⟩,Rk ⟨0,5,60,[d0]⟩]) (λs32 q33 h js32=>?_) (λs32 q33 h js32=>?_) λs32 h=>?_
  ·refine gA Z q33 (lh (.agg d0) P6 Z Z Z)<|jB h λv34 cv34 h=>gN Z q33 (QR.call Z Z Z (iJ (⟨(J list k_).Thread,(J list k_).Index,(J list k_).Loc,(J list k_).Reads,(J list k_).bK⟩:QX) Rj cv34) Z) ?_;exact gj h js32
  ·exact gj h js32
  refine go h λ_ h=>?_;obtain rfl:=QU h;replace h:=congrArg Rk (show _=_ from ks7);exact gz h
 refine gi h (λ_ q35 h=>?_) λ_ q35 h=>?_
 ·refine go h λ_ h=>?_;refine oC h (λ_=>iJ _ _) Z Z Z Z λv36 _ h=>(go h λ_ h=>?_);refine TO.jB h 3 (λs37=>[(137,Bo s37)]) (λs37=>[Rk ⟨0,5,60,[d1]⟩,Rk ⟨0,5,60,[d0]⟩]) (λs37 q38 h js37=>?_) (λs37 q38 h js37=>?_) λs37 h=>?_
  ·refine gA Z q38 (lh (.agg d0) P6 Z Z Z)<|jB h λv39 cv39 h=>gN Z q38 (QR.call Z Z Z (iJ (⟨(J list k_).Thread,(J list k_).Index,(J list k_).Loc,(J list k_).Reads,(J list k_).bK⟩:QX) Ri cv39) Z) ?_;exact gj h js37
  ·exact gj h js37
  refine go h λ_ h=>?_;obtain rfl:=QU h;replace h:=congrArg Rk (show _=_ from ks7);exact gz h
 refine go h λ_ h=>?_
 cases h
 exact ⟨(),(),ks7,trivial,Re⟩
theorem AP (i:Int) (k_:Int) (a2:List<|List QV) (a3:QW) (a4:List QX) (a5:BA) {q} (h:rZ i k_ a2 a3 a4 a5=Rk q):ax Rn 216 [I i,I k_,.fp ((cL<|cL QV.c) a2) 0,.fp (QW.c a3) 0,.fp ((cL QX.c) a4) 0,.fp (cS a5) 0] (Bo q):=by
 refine pM func216 Z (by kernel_rfl) Z<|go h λ_ h=>?_;refine oC h (λ_=>Cs _ _ _ _ _ _) Z Z Z Z λv1 _ h=>?_;exact gz h
theorem oL (n:Int) (is0:List<|List QV) (is1:QW) (is2:List QX) (is3:BA) {q} (h:jf n is0 is1 is2 is3=Rk q):ax Rn 215 [I n,.fn (.func 216) [.fp ((cL<|cL QV.c) is0) 0,.fp (QW.c is1) 0,.fp ((cL QX.c) is2) 0,.fp (cS is3) 0]] (eL cI q):=by
 refine pM func215 Z (by kernel_rfl) Z<|go h λ_ h=>?_;refine jD h λg1 h=>oA (EvA.mkN (c:=cI) (Rh:Int) iI Z Z g1 Z Z Z)<|go h λ_ h=>?_;refine tJ h (λs2 gh=>[(5,hS Rj 0 gh 1 s2.length)]) (λs2 gh=>[bE Rj gh 1 3 (s2.map cI)]) (λs2 u27 h=>?_) λs2 h=>?_
 ·exact gf h
 refine go h λ_ h=>?_;refine tT h 0 (λs6 gh=>[(11,I s6.2),(10,I n),(5,hS Rj 0 gh 1 s6.1.length),(0,I n),(1,.fn (.func 216) [.fp ((cL<|cL QV.c) is0) 0,.fp (QW.c is1) 0,.fp ((cL QX.c) is2) 0,.fp (cS is3) 0])]) (λs6 gh=>[bE Rj gh 1 3 (s6.1.map cI)]) λs6 u8 ws6 h=>?_;refine go h λ_ h=>?_;refine jH ?_;refine jN Z h (λq9 h=>?_) λq9 h=>?_
 ·refine go h λ_ h=>?_;refine tJ h (λs10 gh=>[(11,I s6.2),(10,I n),(5,hS Rj 0 gh 1 s10.length),(0,I n),(1,.fn (.func 216) [.fp ((cL<|cL QV.c) is0) 0,.fp (QW.c is1) 0,.fp ((cL QX.c) is2) 0,.fp (cS is3) 0])]) (λs10 gh=>[bE Rj gh 1 3 (s10.map cI)]) (λs10 u25 h=>?_) λs10 h=>?_
  ·refine go h λ_ h=>?_;obtain rfl:=QU h;exact ⟨(s10,(s6.2+V)),u25,Z,trivial,Re⟩
  refine go h λ_ h=>?_;refine tT h u8 (λs14 gh=>[(15,I s14.2),(14,I n),(6,I s6.2),(11,I s6.2),(10,I n),(5,hS Rj 0 gh 1 s14.1.length),(0,I n),(1,.fn (.func 216) [.fp ((cL<|cL QV.c) is0) 0,.fp (QW.c is1) 0,.fp ((cL QX.c) is2) 0,.fp (cS is3) 0])]) (λs14 gh=>[bE Rj gh 1 3 (s14.1.map cI)]) λs14 u16 ws14 h=>?_;refine go h λ_ h=>?_;refine jH ?_;refine jN Z h (λq17 h=>?_) λq17 h=>?_
  ·refine go h λ_ h=>?_;refine tJ h (λs18 gh=>[(15,I s14.2),(14,I n),(6,I s6.2),(11,I s6.2),(10,I n),(5,hS Rj 0 gh 1 s18.length),(0,I n),(1,.fn (.func 216) [.fp ((cL<|cL QV.c) is0) 0,.fp (QW.c is1) 0,.fp ((cL QX.c) is2) 0,.fp (cS is3) 0])]) (λs18 gh=>[bE Rj gh 1 3 (s18.map cI)]) (λs18 u23 h=>?_) λs18 h=>?_
   ·refine go h λ_ h=>?_;obtain rfl:=QU h;exact ⟨(s18,(s14.2+V)),u23,Z,trivial,Re⟩
   refine go h λ_ h=>?_;refine oC h (λ_=>AP _ _ _ _ _ _) Z Z Z Z λv19 _ h=>?_;refine gi h (λ_ q20 h=>?_) λ_ q20 h=>?_
   ·refine jP (dG [dF,dF,dF,([0],Rj),dF,dF,dF,dF,([0],Ri)]) (by kernel_rfl) (by kernel_rfl)<|go h λf h=>?_;obtain ⟨_,g21,_⟩:=f;refine fV 0 [] Z Z (λG hG=>EvA.stO (g:=false) (l:=s14.1) (cs:=[I (bOr .i64 (J s14.1 s6.2)<|EI .i64 V s14.2)]) (bOr .i64 (J s14.1 s6.2)<|EI .i64 V s14.2) Ra Z Z (hG.a0 Z) nofun (aQ Z g21) Z Z Z)<|go h λ_ h=>?_;obtain rfl:=QU h;exact ⟨u16,trivial,Ap Z<|QQ Z<|QQ Z<|QQ Z<|QQ Z<|QQ Z<|QQ (congrArg (hS Rj 0 u16 1) (by simp:s14.1.length=(s14.1.set s6.2.toNat<|bOr .i64 (J s14.1 s6.2)<|EI .i64 (1:Int) s14.2).length))<|QQ Z<|QQ Z QP⟩
   refine go h λ_ h=>?_
   cases h
   exact ⟨u16,trivial,Re⟩
  refine jM<|lX h λh=>?_
  cases h
  exact ⟨u16,trivial,Re⟩
 refine jM<|lX h λh=>?_
 cases h
 exact ⟨u8,trivial,Re⟩
theorem CO (p:List<|List QV) (x:QW) (name:BA) {q} (h:ic p x name=Rk q):ax Rn 152 [eL (cL QV.c) p,.agg (QW.c x),St name] (eL cI q):=by
 refine pM func152 Z (by kernel_rfl) Z<|jI<|oN (QR.bxF [eL (cL QV.c) p] Z Z Z)<|oN (QR.bxF [eL cI x.From,eL (cL cI) x.Order] Z Z Z)<|oN (QR.bxF [St name] Z Z Z)<|oN as'<|jA<|jI<|oN (lf (eL (cL QV.c) p) Qt Z)<|oC h (λ_=>rf _) Z Z Z Z λv1 _ h=>oA (EvA.al QH Z Z)<|oV (sr [eL QX.c v1] Qu Z Z Z Z)<|TO.cut (e0:=ai [(7,.fp ((cL QX.c) v1) 0),(5,.fp (cS name) 0),(4,.fp (QW.c x) 0),(3,.fp ((cL<|cL QV.c) p) 0)]) (H0:=[]) (uY Z .nil<|au (.fz<|Fz.fpL (ver:=0) (s:=1) (ty:=57) (rows:=[[eL QX.c v1]]) Z Z Z<|.cons (qC Z) .nil)<|au (.fz<|qC Z)<|au (.fz<|qC Z)<|au (.fz<|qC Z) bB)<|jA<|jI<|oN (lf (eL QX.c v1) Qu Z) ?_;refine oN (QR.lenL Md Z)<|oN (QR.mkfn [.fp ((cL<|cL QV.c) p) 0,.fp (QW.c x) 0,.fp ((cL QX.c) v1) 0,.fp (cS name) 0] Z Z)<|oC h (λ_=>oL _ _ _ _ _) Z Z Z Z λv2 _ h=>oN as'<|jA<|jK ?_
 cases h
 exact FZ Z Z Z
theorem xq (x:Int) (a1:LI) {q} (h:nH x a1=Rk q):ax Rn 236 [I x,.fp ((cL cI) a1) 0] (Bo q):=by
 refine pM func236 Z (by kernel_rfl) Z<|go h λ_ h=>?_;refine TO.jB h 6 (λs1=>[(12,Bo s1)]) (λs1=>[]) (λs1 q2 h js1=>?_) (λs1 q2 h js1=>?_) λs1 h=>?_
 ·exact gj h js1
 ·exact gj h js1
 exact gz h
theorem ia (s:LI) (f0:LI) {q} (h:bh s f0=Rk q):ax Rn 190 [eL cI s,.fn (.func 236) [.fp ((cL cI) f0) 0]] (I q):=by
 refine pM func190 Z (by kernel_rfl) Z<|go h λ_ h=>?_;obtain ⟨Ks1,es1,ws1,h,ks1⟩:=sumL h;refine T.join (S:=Unit) (G:=Unit) (λs1=>Ks1 s1=Rk q) (λs1 gh=>True) (λs1 gh=>[]) (λs1 gh=>[]) (λs1 gh h hg=>?_) ?_
 ·clear ks1;subst es1;exact gz h
 refine go h λ_ h=>?_;refine tU h (λs4=>[(8,I s4),(7,I (s.length:Int)),(0,eL cI s),(1,.fn (.func 236) [.fp ((cL cI) f0) 0])]) (λs4=>[]) λs4 ws4 h=>?_;refine go h λ_ h=>?_;refine jH ?_;refine jN Z h (λq6 h=>?_) λq6 h=>?_
 ·refine go h λ_ h=>?_;refine gs h λ_ h=>?_;refine oC h (λ_=>xq _ _) Z Z Z Z λv8 _ h=>?_;refine gi h (λ_ q9 h=>?_) λ_ q9 h=>?_
  ·refine go h λ_ h=>?_;refine lX h λh=>?_;obtain rfl:=QU h;replace h:=congrArg Rk (show _=_ from ks1);exact gz h
  refine go h λ_ h=>?_;exact lE h Re
 refine jM<|lX h λh=>?_
 cases h
 exact ⟨(),(),ks1,trivial,Re⟩
theorem fH (s:LI) (f0:LI) {q} (h:aU s f0=Rk q):ax Rn 235 [eL cI s,.fn (.func 236) [.fp ((cL cI) f0) 0]] (Bo q):=by
 refine pM func235 Z (by kernel_rfl) Z<|go h λ_ h=>?_;refine oC h (λ_=>ia _ _) Z Z Z Z λv1 _ h=>?_;exact gz h
theorem d9 (r_:LI) {q} (h:cn r_=Rk q):ax Rn 169 [eL cI r_] (Bo q):=by
 refine pM func169 Z (by kernel_rfl) Z<|jI<|oN (QR.bxF [eL cI r_] Z Z Z)<|oN as'<|jA<|jI<|oN (lf (eL cI r_) Ag Z)<|oN (QR.lenL iI Z)<|oN (QR.ile Z Z)<|oN mv ?_;refine TO.jB h 5 (λs1=>[(11,Bo s1)]) (λs1=>[]) (λs1 q2 h js1=>?_) (λs1 q2 h js1=>?_) λs1 h=>?_
 ·refine gN Z q2 (lf (eL cI r_) Ag Z)<|gN Z q2 (QR.mkfn [.fp ((cL cI) r_) 0] Z Z)<|jB h λv3 cv3 h=>gN Z q2 (QR.call Z Z Z (fH r_ r_ cv3) Z)<|gN Z q2 (QR.not Z)<|oN (QR.pickT Z q2 (Bo<|!v3) Z) ?_
  cases h
  exact js1 _ _<|kw Z Z
 ·refine gS Z q2<|gS Z q2<|gS Z q2<|gS Z q2<|oN (QR.pickF Z q2 (Bo Rj) Z) ?_
  cases h
  exact js1 _ _<|kw Z Z
 refine oN as'<|jA<|jK ?_
 cases h
 exact FZ Z Z Z
theorem lD (r_:LI) (i:Int) (k_:Int) {q} (h:fQ r_ i k_=Rk q):ax Rn 219 [eL cI r_,I i,I k_] (Bo q):=by
 refine pM func219 Z (by kernel_rfl) Z ?_;exact gz h
theorem vM (i:Int) (k_:Int) (a2:LI) {q} (h:lH i k_ a2=Rk q):ax Rn 218 [I i,I k_,.fp ((cL cI) a2) 0] (Bo q):=by
 refine pM func218 Z (by kernel_rfl) Z<|go h λ_ h=>?_;refine oC h (λ_=>lD _ _ _) Z Z Z Z λv1 _ h=>?_;exact gz h
theorem lS (n:Int) (is0:LI) {q} (h:fF n is0=Rk q):ax Rn 215 [I n,.fn (.func 218) [.fp ((cL cI) is0) 0]] (eL cI q):=by
 refine pM func215 Z (by kernel_rfl) Z<|go h λ_ h=>?_;refine jD h λg1 h=>oA (EvA.mkN (c:=cI) (Rh:Int) iI Z Z g1 Z Z Z)<|go h λ_ h=>?_;refine tJ h (λs2 gh=>[(5,hS Rj 0 gh 1 s2.length)]) (λs2 gh=>[bE Rj gh 1 3 (s2.map cI)]) (λs2 u27 h=>?_) λs2 h=>?_
 ·exact gf h
 refine go h λ_ h=>?_;refine tT h 0 (λs6 gh=>[(11,I s6.2),(10,I n),(5,hS Rj 0 gh 1 s6.1.length),(0,I n),(1,.fn (.func 218) [.fp ((cL cI) is0) 0])]) (λs6 gh=>[bE Rj gh 1 3 (s6.1.map cI)]) λs6 u8 ws6 h=>?_;refine go h λ_ h=>?_;refine jH ?_;refine jN Z h (λq9 h=>?_) λq9 h=>?_
 ·refine go h λ_ h=>?_;refine tJ h (λs10 gh=>[(11,I s6.2),(10,I n),(5,hS Rj 0 gh 1 s10.length),(0,I n),(1,.fn (.func 218) [.fp ((cL cI) is0) 0])]) (λs10 gh=>[bE Rj gh 1 3 (s10.map cI)]) (λs10 u25 h=>?_) λs10 h=>?_
  ·refine go h λ_ h=>?_;obtain rfl:=QU h;exact ⟨(s10,(s6.2+V)),u25,Z,trivial,Re⟩
  refine go h λ_ h=>?_;refine tT h u8 (λs14 gh=>[(15,I s14.2),(14,I n),(6,I s6.2),(11,I s6.2),(10,I n),(5,hS Rj 0 gh 1 s14.1.length),(0,I n),(1,.fn (.func 218) [.fp ((cL cI) is0) 0])]) (λs14 gh=>[bE Rj gh 1 3 (s14.1.map cI)]) λs14 u16 ws14 h=>?_;refine go h λ_ h=>?_;refine jH ?_;refine jN Z h (λq17 h=>?_) λq17 h=>?_
  ·refine go h λ_ h=>?_;refine tJ h (λs18 gh=>[(15,I s14.2),(14,I n),(6,I s6.2),(11,I s6.2),(10,I n),(5,hS Rj 0 gh 1 s18.length),(0,I n),(1,.fn (.func 218) [.fp ((cL cI) is0) 0])]) (λs18 gh=>[bE Rj gh 1 3 (s18.map cI)]) (λs18 u23 h=>?_) λs18 h=>?_
   ·refine go h λ_ h=>?_;obtain rfl:=QU h;exact ⟨(s18,(s14.2+V)),u23,Z,trivial,Re⟩
   refine go h λ_ h=>?_;refine oC h (λ_=>vM _ _ _) Z Z Z Z λv19 _ h=>?_;refine gi h (λ_ q20 h=>?_) λ_ q20 h=>?_
   ·refine jP (dG [dF,dF,dF,([0],Rj),dF,dF,dF,dF,([0],Ri)]) (by kernel_rfl) (by kernel_rfl)<|go h λf h=>?_;obtain ⟨_,g21,_⟩:=f;refine fV 0 [] Z Z (λG hG=>EvA.stO (g:=false) (l:=s14.1) (cs:=[I (bOr .i64 (J s14.1 s6.2)<|EI .i64 V s14.2)]) (bOr .i64 (J s14.1 s6.2)<|EI .i64 V s14.2) Ra Z Z (hG.a0 Z) nofun (aQ Z g21) Z Z Z)<|go h λ_ h=>?_;obtain rfl:=QU h;exact ⟨u16,trivial,Ap Z<|QQ Z<|QQ Z<|QQ Z<|QQ Z<|QQ Z<|QQ (congrArg (hS Rj 0 u16 1) (by simp:s14.1.length=(s14.1.set s6.2.toNat<|bOr .i64 (J s14.1 s6.2)<|EI .i64 (1:Int) s14.2).length))<|QQ Z<|QQ Z QP⟩
   refine go h λ_ h=>?_
   cases h
   exact ⟨u16,trivial,Re⟩
  refine jM<|lX h λh=>?_
  cases h
  exact ⟨u16,trivial,Re⟩
 refine jM<|lX h λh=>?_
 cases h
 exact ⟨u8,trivial,Re⟩
theorem xu (r_:LI) {q} (h:kC r_=Rk q):ax Rn 153 [eL cI r_] (eL cI q):=by
 refine pM func153 Z (by kernel_rfl) Z<|jI<|oN (QR.bxF [eL cI r_] Z Z Z)<|oN as'<|jA<|jH<|jI<|oN (lf (eL cI r_) Ag Z)<|oC h (λ_=>d9 _) Z Z Z Z λv1 _ h=>oN (QR.not Z)<|jA ?_;refine jN Z h (λq2 h=>?_) λq2 h=>?_
 ·refine jI<|oN as'<|jA<|jK ?_;obtain rfl:=QU h
  repeat (first|refine n9 ?_|refine og ?_)
  exact jQ (vs:=[.nil]) (.cons (.tmp Z) .nil) .nil0
 refine jG<|jI<|oN (lf (eL cI r_) Ag Z)<|oN (QR.lenL iI Z)<|oN (QR.mkfn [.fp ((cL cI) r_) 0] Z Z)<|oC h (λ_=>lS _ _) Z Z Z Z λv3 _ h=>oN as'<|jA<|jK ?_
 cases h
 exact FZ Z Z Z
theorem ru (r_:LI) {q} (h:gI r_=Rk q):ax Rn 154 [eL cI r_] (eL cI q):=by
 refine pM func154 Z (by kernel_rfl) Z<|go h λ_ h=>?_;refine gs h λ_ h=>?_;refine oC h (λ_=>d9 _) Z Z Z Z λv1 _ h=>?_;refine gi h (λ_ q2 h=>?_) λ_ q2 h=>?_
 ·refine go h λ_ h=>?_;obtain rfl:=QU h
  repeat (first|refine n9 ?_|refine og ?_)
  exact jQ (vs:=[.nil]) (.cons (.tmp Z) .nil) .nil0
 refine go h λ_ h=>?_;refine jB h λv3 cv3 h=>?_;refine oG Z Z Z ((kY r_ cv3).own Z (BG qD) BH 0 Z) λg4 v5 n6=>?_;refine go h λ_ h=>?_;refine T.jF (G:=(Bool×Nat)) h (λs7 gh=>(gh.1=Ri->s7=[])) (λs7 gh=>[(3,hS gh.1 0 gh.2 1 s7.length)]) (λs7 gh=>[bE gh.1 gh.2 1 3 (s7.map cI)]) (λs7 gh h n49=>?_) λs7 h=>?_
 ·obtain ⟨b48,u47⟩:=gh;exact gf h
 refine go h λ_ h=>?_;refine tL h (g4,v5) (λs16 gh=>(gh.1=Ri->s16.1=[])) (λs16 gh=>[(13,I s16.2),(12,I (v3.length:Int)),(3,hS gh.1 0 gh.2 1 s16.1.length)]) (λs16 gh=>[bE gh.1 gh.2 1 3 (s16.1.map cI)]) (λx=>List.eq_nil_of_length_eq_zero<|n6 x) λs16 gh ws16 h n20=>?_;obtain ⟨b19,u18⟩:=gh;refine go h λ_ h=>?_;refine jH ?_;refine jN Z h (λq21 h=>?_) λq21 h=>?_
 ·refine go h λ_ h=>?_;refine T.jF (G:=(Bool×Nat)) h (λs22 gh=>(gh.1=Ri->s22=[])) (λs22 gh=>[(13,I s16.2),(12,I (v3.length:Int)),(3,hS gh.1 0 gh.2 1 s22.length)]) (λs22 gh=>[bE gh.1 gh.2 1 3 (s22.map cI)]) (λs22 gh h n45=>?_) λs22 h=>?_
  ·obtain ⟨b44,u43⟩:=gh;refine go h λ_ h=>?_;obtain rfl:=QU h;exact ⟨(s22,(s16.2+V)),(b44,u43),Z,n45,Re⟩
  refine go h λ_ h=>?_;refine tL h (b19,u18) (λs28 gh=>(gh.1=Ri->s28.1=[])) (λs28 gh=>[(18,I s28.2),(17,I (s16.1.length:Int)),(4,I s16.2),(13,I s16.2),(12,I (v3.length:Int)),(3,hS gh.1 0 gh.2 1 s28.1.length)]) (λs28 gh=>[bE gh.1 gh.2 1 3 (s28.1.map cI)]) n20 λs28 gh ws28 h n32=>?_;obtain ⟨b31,u30⟩:=gh;refine go h λ_ h=>?_;refine jH ?_;refine jN Z h (λq33 h=>?_) λq33 h=>?_
  ·refine go h λ_ h=>?_;refine T.jF (G:=(Bool×Nat)) h (λs34 gh=>(gh.1=Ri->s34=[])) (λs34 gh=>[(18,I s28.2),(17,I (s16.1.length:Int)),(4,I s16.2),(13,I s16.2),(12,I (v3.length:Int)),(3,hS gh.1 0 gh.2 1 s34.length)]) (λs34 gh=>[bE gh.1 gh.2 1 3 (s34.map cI)]) (λs34 gh h n41=>?_) λs34 h=>?_
   ·obtain ⟨b40,u39⟩:=gh;refine go h λ_ h=>?_;obtain rfl:=QU h;exact ⟨(s34,(s28.2+V)),(b40,u39),Z,n41,Re⟩
   refine go h λ_ h=>?_;refine jB h λv35 cv35 h=>oA (EvA.callT Z Z (lD s28.1 s28.2 s16.2 cv35) (.cons (Fz.own (g:=b31) (ver:=u30) (l:=s28.1) Z Z Z n32 qD)<|.cons (qC Z)<|.cons (qC Z) .nil) Z) ?_;refine gi h (λ_ q36 h=>?_) λ_ q36 h=>?_
   ·refine T.drawH (dG [dF,dF,dF,([0],Rj),dF,dF,dF,([0],Rj),dF,dF,([0],Ri)]) (by kernel_rfl) (by kernel_rfl)<|go h λ_ h=>?_;refine jD h λg37 h=>?_;obtain rfl:=Jc n32 rfl g37;refine go h λ_ h=>?_;refine fV 0 [] Z Z (λG hG=>EvA.stO (g:=false) (l:=s28.1) (cs:=[I (bOr .i64 (J s28.1 s28.2)<|J s28.1 s16.2)]) (bOr .i64 (J s28.1 s28.2)<|J s28.1 s16.2) Ra Z Z (hG.a0 Z) nofun (aQ Z g37) Z Z Z)<|go h λ_ h=>?_;obtain rfl:=QU h;exact ⟨(Rj,u30),nofun,Ap Z<|QQ Z<|QQ Z<|QQ Z<|QQ Z<|QQ Z<|QQ (congrArg (hS Rj 0 u30 1) (by simp:s28.1.length=(s28.1.set s28.2.toNat<|bOr .i64 (J s28.1 s28.2)<|J s28.1 s16.2).length)) QP⟩
   refine go h λ_ h=>?_
   cases h
   exact ⟨(b31,u30),n32,Re⟩
  refine jM<|lX h λh=>?_
  cases h
  exact ⟨(b31,u30),n32,Re⟩
 refine jM<|lX h λh=>?_
 cases h
 exact ⟨(b19,u18),n20,Re⟩
theorem lF (a:LI) (b:LI) {q} (h:dW a b=Rk q):ax Rn 224 [eL cI a,eL cI b] (Bo q):=by
 refine pM func224 Z (by kernel_rfl) Z<|go h λ_ h=>?_;refine TO.jB h 3 (λs1=>[(13,Bo s1),(1,eL cI b)]) (λs1=>[]) (λs1 q2 h js1=>?_) (λs1 q2 h js1=>?_) λs1 h=>?_
 ·refine go h λ_ h=>?_;refine jB h λv3 cv3 h=>gN Z q2 (QR.call Z Z Z (d9 a cv3) Z) ?_;exact gj h js1
 ·exact gj h js1
 refine go h λ_ h=>?_;refine TO.jB h 3 (λs4=>[(17,Bo s4)]) (λs4=>[]) (λs4 q5 h js4=>?_) (λs4 q5 h js4=>?_) λs4 h=>?_
 ·refine go h λ_ h=>?_;refine jB h λv6 cv6 h=>gN Z q5 (QR.call Z Z Z (d9 b cv6) Z) ?_;exact gj h js4
 ·exact gj h js4
 exact gz h
theorem xw (x:Int) (y:Int) {q} (h:nI x y=Rk q):ax Rn 221 [I x,I y] (I q):=by
 refine pM func221 Z (by kernel_rfl) Z ?_;exact gz h
theorem l9 (a:LI) (b:LI) {q} (h:fZ a b=Rk q):ax Rn 220 [eL cI a,eL cI b,.fn (.func 221) []] (eL cI q):=by
 refine pM func220 Z (by kernel_rfl) Z<|go h λ_ h=>?_;refine gs h λ_ h=>?_;refine oC h (λ_=>lF _ _) Z Z Z Z λv1 _ h=>?_;refine gi h (λ_ q2 h=>?_) λ_ q2 h=>?_
 ·refine go h λ_ h=>?_;obtain rfl:=QU h
  repeat (first|refine n9 ?_|refine og ?_)
  exact jQ (vs:=[.nil]) (.cons (.tmp Z) .nil) .nil0
 refine go h λ_ h=>?_;refine jD h λg3 h=>oA (EvA.mkN (c:=cI) (Rh:Int) iI Z Z g3 Z Z Z)<|go h λ_ h=>?_;refine tJ h (λs4 gh=>[(7,hS Rj 0 gh 1 s4.length)]) (λs4 gh=>[bE Rj gh 1 3 (s4.map cI)]) (λs4 u17 h=>?_) λs4 h=>?_
 ·exact gf h
 refine go h λ_ h=>?_;refine tT h 0 (λs8 gh=>[(18,I s8.2),(17,I (a.length:Int)),(7,hS Rj 0 gh 1 s8.1.length),(0,eL cI a),(1,eL cI b),(2,.fn (.func 221) [])]) (λs8 gh=>[bE Rj gh 1 3 (s8.1.map cI)]) λs8 u10 ws8 h=>?_;refine go h λ_ h=>?_;refine jH ?_;refine jN Z h (λq11 h=>?_) λq11 h=>?_
 ·refine go h λ_ h=>?_;refine gs h λ_ h=>?_;refine jP (dG [dF,dF,dF,dF,dF,dF,dF,dF,dF,dF,dF,dF,dF,([0],Ri)]) (by kernel_rfl) (by kernel_rfl)<|go h λ_ h=>?_;refine fC h (λ_=>xw _ _) Z Z Z Z Z λv14 _ h=>(go h λf h=>?_);obtain ⟨g15,_⟩:=f;refine fV 0 [] Z Z (λG hG=>EvA.stO (g:=false) (l:=s8.1) (cs:=[I v14]) v14 Ra Z Z (hG.a0 Z) nofun (aQ Z g15) Z Z Z)<|go h λ_ h=>?_;obtain rfl:=QU h;exact ⟨((s8.1.set s8.2.toNat v14),(s8.2+(1:Int))),u10,Z,trivial,Ap Z<|QQ Z<|QQ Z<|QQ (congrArg (hS Rj 0 u10 1) (by simp:s8.1.length=(s8.1.set s8.2.toNat v14).length))<|QQ Z<|QQ Z<|QQ Z QP⟩
 refine jM<|lX h λh=>?_
 cases h
 exact ⟨u10,trivial,Re⟩
theorem zN (a:LI) (b:LI) {q} (h:mG a b=Rk q):ax Rn 155 [eL cI a,eL cI b] (eL cI q):=by
 refine pM func155 Z (by kernel_rfl) Z<|go h λ_ h=>?_;refine oC h (λ_=>l9 _ _) Z Z Z Z λv1 _ h=>?_;exact gz h
theorem yL (x:Int) (y:Int) {q} (h:oU x y=Rk q):ax Rn 222 [I x,I y] (I q):=by
 refine pM func222 Z (by kernel_rfl) Z ?_;exact gz h
theorem m8 (a:LI) (b:LI) {q} (h:gJ a b=Rk q):ax Rn 220 [eL cI a,eL cI b,.fn (.func 222) []] (eL cI q):=by
 refine pM func220 Z (by kernel_rfl) Z<|go h λ_ h=>?_;refine gs h λ_ h=>?_;refine oC h (λ_=>lF _ _) Z Z Z Z λv1 _ h=>?_;refine gi h (λ_ q2 h=>?_) λ_ q2 h=>?_
 ·refine go h λ_ h=>?_;obtain rfl:=QU h
  repeat (first|refine n9 ?_|refine og ?_)
  exact jQ (vs:=[.nil]) (.cons (.tmp Z) .nil) .nil0
 refine go h λ_ h=>?_;refine jD h λg3 h=>oA (EvA.mkN (c:=cI) (Rh:Int) iI Z Z g3 Z Z Z)<|go h λ_ h=>?_;refine tJ h (λs4 gh=>[(7,hS Rj 0 gh 1 s4.length)]) (λs4 gh=>[bE Rj gh 1 3 (s4.map cI)]) (λs4 u17 h=>?_) λs4 h=>?_
 ·exact gf h
 refine go h λ_ h=>?_;refine tT h 0 (λs8 gh=>[(18,I s8.2),(17,I (a.length:Int)),(7,hS Rj 0 gh 1 s8.1.length),(0,eL cI a),(1,eL cI b),(2,.fn (.func 222) [])]) (λs8 gh=>[bE Rj gh 1 3 (s8.1.map cI)]) λs8 u10 ws8 h=>?_;refine go h λ_ h=>?_;refine jH ?_;refine jN Z h (λq11 h=>?_) λq11 h=>?_
 ·refine go h λ_ h=>?_;refine gs h λ_ h=>?_;refine jP (dG [dF,dF,dF,dF,dF,dF,dF,dF,dF,dF,dF,dF,dF,([0],Ri)]) (by kernel_rfl) (by kernel_rfl)<|go h λ_ h=>?_;refine fC h (λ_=>yL _ _) Z Z Z Z Z λv14 _ h=>(go h λf h=>?_);obtain ⟨g15,_⟩:=f;refine fV 0 [] Z Z (λG hG=>EvA.stO (g:=false) (l:=s8.1) (cs:=[I v14]) v14 Ra Z Z (hG.a0 Z) nofun (aQ Z g15) Z Z Z)<|go h λ_ h=>?_;obtain rfl:=QU h;exact ⟨((s8.1.set s8.2.toNat v14),(s8.2+(1:Int))),u10,Z,trivial,Ap Z<|QQ Z<|QQ Z<|QQ (congrArg (hS Rj 0 u10 1) (by simp:s8.1.length=(s8.1.set s8.2.toNat v14).length))<|QQ Z<|QQ Z<|QQ Z QP⟩
 refine jM<|lX h λh=>?_
 cases h
 exact ⟨u10,trivial,Re⟩
theorem AQ (a:LI) (b:LI) {q} (h:nW a b=Rk q):ax Rn 156 [eL cI a,eL cI b] (eL cI q):=by
 refine pM func156 Z (by kernel_rfl) Z<|go h λ_ h=>?_;refine oC h (λ_=>m8 _ _) Z Z Z Z λv1 _ h=>?_;exact gz h
theorem xx (x:Int) (y:Int) {q} (h:nJ x y=Rk q):ax Rn 223 [I x,I y] (I q):=by
 refine pM func223 Z (by kernel_rfl) Z<|jI<|oN as'<|jA<|jI<|oN mv<|oN mv<|oN (QR.bandNot Z Z)<|oN as'<|jA<|jK ?_
 cases h
 exact FZ Z Z Z
theorem ma (a:LI) (b:LI) {q} (h:f9 a b=Rk q):ax Rn 220 [eL cI a,eL cI b,.fn (.func 223) []] (eL cI q):=by
 refine pM func220 Z (by kernel_rfl) Z<|go h λ_ h=>?_;refine gs h λ_ h=>?_;refine oC h (λ_=>lF _ _) Z Z Z Z λv1 _ h=>?_;refine gi h (λ_ q2 h=>?_) λ_ q2 h=>?_
 ·refine go h λ_ h=>?_;obtain rfl:=QU h
  repeat (first|refine n9 ?_|refine og ?_)
  exact jQ (vs:=[.nil]) (.cons (.tmp Z) .nil) .nil0
 refine go h λ_ h=>?_;refine jD h λg3 h=>oA (EvA.mkN (c:=cI) (Rh:Int) iI Z Z g3 Z Z Z)<|go h λ_ h=>?_;refine tJ h (λs4 gh=>[(7,hS Rj 0 gh 1 s4.length)]) (λs4 gh=>[bE Rj gh 1 3 (s4.map cI)]) (λs4 u17 h=>?_) λs4 h=>?_
 ·exact gf h
 refine go h λ_ h=>?_;refine tT h 0 (λs8 gh=>[(18,I s8.2),(17,I (a.length:Int)),(7,hS Rj 0 gh 1 s8.1.length),(0,eL cI a),(1,eL cI b),(2,.fn (.func 223) [])]) (λs8 gh=>[bE Rj gh 1 3 (s8.1.map cI)]) λs8 u10 ws8 h=>?_;refine go h λ_ h=>?_;refine jH ?_;refine jN Z h (λq11 h=>?_) λq11 h=>?_
 ·refine go h λ_ h=>?_;refine gs h λ_ h=>?_;refine jP (dG [dF,dF,dF,dF,dF,dF,dF,dF,dF,dF,dF,dF,dF,([0],Ri)]) (by kernel_rfl) (by kernel_rfl)<|go h λ_ h=>?_;refine fC h (λ_=>xx _ _) Z Z Z Z Z λv14 _ h=>(go h λf h=>?_);obtain ⟨g15,_⟩:=f;refine fV 0 [] Z Z (λG hG=>EvA.stO (g:=false) (l:=s8.1) (cs:=[I v14]) v14 Ra Z Z (hG.a0 Z) nofun (aQ Z g15) Z Z Z)<|go h λ_ h=>?_;obtain rfl:=QU h;exact ⟨((s8.1.set s8.2.toNat v14),(s8.2+(1:Int))),u10,Z,trivial,Ap Z<|QQ Z<|QQ Z<|QQ (congrArg (hS Rj 0 u10 1) (by simp:s8.1.length=(s8.1.set s8.2.toNat v14).length))<|QQ Z<|QQ Z<|QQ Z QP⟩
 refine jM<|lX h λh=>?_
 cases h
 exact ⟨u10,trivial,Re⟩
theorem zO (a:LI) (b:LI) {q} (h:mH a b=Rk q):ax Rn 157 [eL cI a,eL cI b] (eL cI q):=by
 refine pM func157 Z (by kernel_rfl) Z<|go h λ_ h=>?_;refine oC h (λ_=>ma _ _) Z Z Z Z λv1 _ h=>?_;exact gz h
theorem xy (a:LI) (b:LI) {q} (h:kD a b=Rk q):ax Rn 158 [eL cI a,eL cI b] (eL cI q):=by
 refine pM func158 Z (by kernel_rfl) Z<|go h λ_ h=>?_;refine gs h λ_ h=>?_;refine oC h (λ_=>lF _ _) Z Z Z Z λv1 _ h=>?_;refine gi h (λ_ q2 h=>?_) λ_ q2 h=>?_
 ·refine go h λ_ h=>?_;obtain rfl:=QU h
  repeat (first|refine n9 ?_|refine og ?_)
  exact jQ (vs:=[.nil]) (.cons (.tmp Z) .nil) .nil0
 refine go h λ_ h=>?_;refine jD h λg3 h=>oA (EvA.mkN (c:=cI) (Rh:Int) iI Z Z g3 Z Z Z)<|go h λ_ h=>?_;refine tJ h (λs4 gh=>[(5,hS Rj 0 gh 1 s4.length)]) (λs4 gh=>[bE Rj gh 1 3 (s4.map cI)]) (λs4 u29 h=>?_) λs4 h=>?_
 ·exact gf h
 refine go h λ_ h=>?_;refine tT h 0 (λs8 gh=>[(17,I s8.2),(16,I (a.length:Int)),(5,hS Rj 0 gh 1 s8.1.length),(0,eL cI a),(1,eL cI b)]) (λs8 gh=>[bE Rj gh 1 3 (s8.1.map cI)]) λs8 u10 ws8 h=>?_;refine go h λ_ h=>?_;refine jH ?_;refine jN Z h (λq11 h=>?_) λq11 h=>?_
 ·refine go h λ_ h=>?_;refine tJ h (λs12 gh=>[(17,I s8.2),(16,I (a.length:Int)),(5,hS Rj 0 gh 1 s12.length),(0,eL cI a),(1,eL cI b)]) (λs12 gh=>[bE Rj gh 1 3 (s12.map cI)]) (λs12 u27 h=>?_) λs12 h=>?_
  ·refine go h λ_ h=>?_;obtain rfl:=QU h;exact ⟨(s12,(s8.2+V)),u27,Z,trivial,Re⟩
  refine go h λ_ h=>?_;refine tT h u10 (λs16 gh=>[(22,I s16.2),(21,I (b.length:Int)),(6,I s8.2),(17,I s8.2),(16,I (a.length:Int)),(5,hS Rj 0 gh 1 s16.1.length),(0,eL cI a),(1,eL cI b)]) (λs16 gh=>[bE Rj gh 1 3 (s16.1.map cI)]) λs16 u18 ws16 h=>?_;refine go h λ_ h=>?_;refine jH ?_;refine jN Z h (λq19 h=>?_) λq19 h=>?_
  ·refine go h λ_ h=>?_;refine tJ h (λs20 gh=>[(22,I s16.2),(21,I (b.length:Int)),(6,I s8.2),(17,I s8.2),(16,I (a.length:Int)),(5,hS Rj 0 gh 1 s20.length),(0,eL cI a),(1,eL cI b)]) (λs20 gh=>[bE Rj gh 1 3 (s20.map cI)]) (λs20 u25 h=>?_) λs20 h=>?_
   ·refine go h λ_ h=>?_;obtain rfl:=QU h;exact ⟨(s20,(s16.2+V)),u25,Z,trivial,Re⟩
   refine go h λ_ h=>?_;refine oC h (λ_=>lD _ _ _) Z Z Z Z λv21 _ h=>?_;refine gi h (λ_ q22 h=>?_) λ_ q22 h=>?_
   ·refine jP (dG [dF,dF,dF,([0],Rj),dF,dF,dF,dF,dF,dF,([0],Ri)]) (by kernel_rfl) (by kernel_rfl)<|go h λf h=>?_;obtain ⟨_,g23,_⟩:=f;refine fV 0 [] Z Z (λG hG=>EvA.stO (g:=false) (l:=s16.1) (cs:=[I (bOr .i64 (J s16.1 s8.2)<|J b s16.2)]) (bOr .i64 (J s16.1 s8.2)<|J b s16.2) Ra Z Z (hG.a0 Z) nofun (aQ Z g23) Z Z Z)<|go h λ_ h=>?_;obtain rfl:=QU h;exact ⟨u18,trivial,Ap Z<|QQ Z<|QQ Z<|QQ Z<|QQ Z<|QQ Z<|QQ (congrArg (hS Rj 0 u18 1) (by simp:s16.1.length=(s16.1.set s8.2.toNat<|bOr .i64 (J s16.1 s8.2)<|J b s16.2).length))<|QQ Z<|QQ Z QP⟩
   refine go h λ_ h=>?_
   cases h
   exact ⟨u18,trivial,Re⟩
  refine jM<|lX h λh=>?_
  cases h
  exact ⟨u18,trivial,Re⟩
 refine jM<|lX h λh=>?_
 cases h
 exact ⟨u10,trivial,Re⟩
theorem zP:∀ (nf:Nat) (p:List<|List QV) (x:QW) (e_:ae) {q} (h:cN nf p x e_=Rk q),ax Rn 93 [eL (cL QV.c) p,.agg (QW.c x),.agg (ae.c e_)] (eL cI q):=by
 intro nf
 induction nf with
 | zero=>intros;rename_i h;cases h
 | succ nf ih=>
  intro p x e_ q h;replace h:cK (cN nf) p x e_=Rk q:=h;refine pM func93 Z (by kernel_rfl) Z<|go h λ_ h=>?_;refine eF Z Z Z<|eF Z Z Z ?_;refine go h λ_ h=>?_;refine Rb h (λ_ q1 h=>?_) λ_ q1 h=>?_
  ·refine go h λ_ h=>?_;refine oC h (λ_=>CO _ _ _) Z Z Z Z λv2 _ h=>?_;exact gz h
  refine go h λ_ h=>?_;refine jH<|T.drawP (by kernel_rfl) (by kernel_rfl) ?_;refine go h λ_ h=>?_;refine jD h λg3 h=>fN Z (QR.res (QR.ixL El Z Z g3 ZTE.len) (r' := .fp (ae.c (J e_.Kids U).out) 0) λ_ _ hr=>zf (ZTE.out_c _) hr)<|go h λ_ h=>?_;refine fC h (λ_=>ih _ _ _) Z Z Z Z Z λv4 _ h=>(go h λ_ h=>?_);refine Rb h (λ_ q5 h=>?_) λ_ q5 h=>?_
  ·refine go h λ_ h=>?_;refine oC h (λ_=>xu _) Z Z Z Z λv6 _ h=>?_;exact gz h
  refine gi h (λ_ q7 h=>?_) λ_ q7 h=>?_
  ·refine go h λ_ h=>?_;refine oC h (λ_=>ru _) Z Z Z Z λv8 _ h=>?_;exact gz h
  refine go h λ_ h=>?_;refine jH<|T.drawP (by kernel_rfl) (by kernel_rfl) ?_;refine go h λ_ h=>?_;refine jD h λg9 h=>fN Z (QR.res (QR.ixL El Z Z g9 ZTE.len) (r' := .fp (ae.c (J e_.Kids V).out) 0) λ_ _ hr=>zf (ZTE.out_c _) hr)<|go h λ_ h=>?_;refine fC h (λ_=>ih _ _ _) Z Z Z Z Z λv10 _ h=>(go h λ_ h=>?_);refine Rb h (λ_ q11 h=>?_) λ_ q11 h=>?_
  ·refine go h λ_ h=>?_;refine oC h (λ_=>zN _ _) Z Z Z Z λv12 _ h=>?_;exact gz h
  refine gi h (λ_ q13 h=>?_) λ_ q13 h=>?_
  ·refine go h λ_ h=>?_;refine oC h (λ_=>AQ _ _) Z Z Z Z λv14 _ h=>?_;exact gz h
  refine gi h (λ_ q15 h=>?_) λ_ q15 h=>?_
  ·refine go h λ_ h=>?_;refine oC h (λ_=>zO _ _) Z Z Z Z λv16 _ h=>?_;exact gz h
  refine go h λ_ h=>?_;refine oC h (λ_=>xy _ _) Z Z Z Z λv17 _ h=>?_;exact gz h
theorem AR (p:List<|List QV) (x:QW) (e_:ae) {q} (h:r9 p x e_=Rk q):ax Rn 93 [eL (cL QV.c) p,.agg (QW.c x),.agg (ae.c e_)] (eL cI q):=by
 obtain ⟨nf,h⟩:=rW h;exact zP nf p x e_ h
theorem nE (r_:LI) {q} (h:dR r_=Rk q):ax Rn 160 [eL cI r_] (Bo q):=by
 refine pM func160 Z (by kernel_rfl) Z<|go h λ_ h=>?_;obtain ⟨Ks1,es1,ws1,h,ks1⟩:=sumL h;refine T.join (S:=Unit) (G:=Unit) (λs1=>Ks1 s1=Rk q) (λs1 gh=>True) (λs1 gh=>[]) (λs1 gh=>[]) (λs1 gh h hg=>?_) ?_
 ·clear ks1;subst es1;exact gz h
 refine go h λ_ h=>?_;refine tU h (λs4=>[(6,I s4),(5,I (r_.length:Int)),(0,eL cI r_)]) (λs4=>[]) λs4 ws4 h=>?_;refine go h λ_ h=>?_;refine jH ?_;refine jN Z h (λq6 h=>?_) λq6 h=>?_
 ·refine go h λ_ h=>?_;refine gs h λ_ h=>?_;refine oC h (λ_=>lD _ _ _) Z Z Z Z λv7 _ h=>?_;refine gi h (λ_ q8 h=>?_) λ_ q8 h=>?_
  ·refine go h λ_ h=>?_;refine lX h λh=>?_;obtain rfl:=QU h;replace h:=congrArg Rk (show _=_ from ks1);exact gz h
  refine go h λ_ h=>?_;exact lE h Re
 refine jM<|lX h λh=>?_
 cases h
 exact ⟨(),(),ks1,trivial,Re⟩
theorem xz (r_:LI) {q} (h:kE r_=Rk q):ax Rn 159 [eL cI r_] (Bo q):=by
 refine pM func159 Z (by kernel_rfl) Z<|go h λ_ h=>?_;refine oC h (λ_=>d9 _) Z Z Z Z λv1 _ h=>(go h λ_ h=>?_);refine TO.jB h 4 (λs2=>[(9,Bo s2)]) (λs2=>[]) (λs2 q3 h js2=>?_) (λs2 q3 h js2=>?_) λs2 h=>?_
 ·refine go h λ_ h=>?_;refine jB h λv4 cv4 h=>gN Z q3 (QR.call Z Z Z (ru r_ cv4) Z)<|jB h λv5 cv5 h=>gN Z q3 (QR.call Z Z Z (nE v4 cv5) Z) ?_;exact gj h js2
 ·exact gj h js2
 exact gz h
theorem sK (x:Int) {q} (h:mJ x=Rk q):ax Rn 265 [.v (.int .u64 x)] (I q):=by
 refine pM func265 Z (by kernel_rfl) Z<|jI<|oN as'<|jA<|jI<|oN mv<|jD h λg1 h=>oN (QR.shr Z Z g1)<|oN (QR.band Z Z)<|oN mv<|oN (QR.band Z Z)<|jW h λg2 h=>oN (QR.add Z Z g2)<|oN as'<|jA<|jI ?_;refine oN mv<|jD h λg3 h=>oN (QR.shr Z Z g3)<|oN (QR.band Z Z)<|oN mv<|oN (QR.band Z Z)<|jW h λg4 h=>oN (QR.add Z Z g4)<|oN as'<|jA<|jI<|oN mv<|jD h λg5 h=>oN (QR.shr Z Z g5)<|oN mv<|jW h λg6 h=>?_;refine jB h λw7 ew7 h=>?_;replace ew7:=osi ew7;refine oN (QR.res (QR.add Z Z g6) (r' := .v<|.int .u64 w7) λ_ _ hr=>by rw [<- ew7];exact hr)<|oN (QR.band Z Z)<|oN as'<|jA<|jH<|T.clean (H0:=[]) (e0:=ai [(0,.v<|.int .u64<|dJ .u64 w7 (1085102592571150095:Int))]) Z (QQ Z QP)<|jC<|oN mv<|oN mv<|jD h λg8 h=>oN (QR.shr Z Z g8)<|jW h λg9 h=>oN (QR.add Z Z g9)<|oN as'<|jA<|jI ?_;refine oN mv<|oN mv<|jD h λg10 h=>oN (QR.shr Z Z g10)<|jW h λg11 h=>oN (QR.add Z Z g11)<|oN as'<|jA<|jI<|oN mv<|oN mv<|jD h λg12 h=>oN (QR.shr Z Z g12)<|jW h λg13 h=>oN (QR.add Z Z g13)<|oN as' ?_;refine jA<|jI<|oN mv<|jW h λg14 h=>oN (QR.iconv Qe.und Tryz.underlying3 Z g14)<|oN (QR.band Z Z)<|oN as'<|jA<|jK ?_
 cases h
 exact FZ Z Z Z
theorem uB (x:Int) {q} (h:oq x=Rk q):ax Rn 225 [.v (.int .u64 x)] (I q):=by
 refine pM func225 Z (by kernel_rfl) Z<|go h λ_ h=>?_;refine jH ?_;refine T.cond Z (λq=>absurd (q.symm.trans Z)<|by decide) λ_=>?_;refine go h λ_ h=>?_;refine oC h (λ_=>sK _) Z Z Z Z λv1 _ h=>?_;exact gz h
theorem zQ (r_:LI) {q} (h:vz r_=Rk q):ax Rn 161 [eL cI r_] (I q):=by
 refine pM func161 Z (by kernel_rfl) Z<|go h λ_ h=>?_;refine gs h λ_ h=>?_;refine oC h (λ_=>d9 _) Z Z Z Z λv1 _ h=>?_;refine gi h (λ_ q2 h=>?_) λ_ q2 h=>?_
 ·exact gz h
 refine go h λ_ h=>?_;refine T.jU h (λs3=>[(3,I s3)]) (λs3=>[]) (λs3 h=>?_) λs3 h=>?_
 ·exact gz h
 refine go h λ_ h=>?_;refine tU h (λs6=>[(11,I s6.1),(10,I (r_.length:Int)),(9,eL cI r_),(3,I s6.2)]) (λs6=>[]) λs6 ws6 h=>?_;refine go h λ_ h=>?_;refine jH ?_;refine jN Z h (λq8 h=>?_) λq8 h=>?_
 ·refine go h λ_ h=>?_;refine gs h λ_ h=>?_;refine oC h (λ_=>uB _) Z Z Z Z λv11 _ h=>(go h λ_ h=>?_);exact lE h Re
 refine jM<|lX h λh=>?_
 cases h
 exact ⟨(),trivial,Re⟩
theorem yM (kind:Int) (r_:LI) {q} (h:oZ kind r_=Rk q):ax Rn 94 [I kind,eL cI r_] (Bo q):=by
 refine pM func94 Z (by kernel_rfl) Z<|go h λ_ h=>?_;refine Rb h (λ_ q1 h=>?_) λ_ q1 h=>?_
 ·refine go h λ_ h=>?_;refine oC h (λ_=>xz _) Z Z Z Z λv2 _ h=>?_;exact gz h
 refine gi h (λ_ q3 h=>?_) λ_ q3 h=>?_
 ·refine go h λ_ h=>?_;refine oC h (λ_=>nE _) Z Z Z Z λv4 _ h=>?_;exact gz h
 refine go h λ_ h=>?_;refine oC h (λ_=>zQ _) Z Z Z Z λv5 _ h=>?_;exact gz h
theorem xB (p:List<|List QV) (x:QW) (m:List aj) {q} (h:gK p x m=Rk q):ax Rn 39 [eL (cL QV.c) p,.agg (QW.c x),eL aj.c m] (.tup [I q.1,eL cI q.2]):=by
 refine pM func39 Z (by kernel_rfl) Z<|go h λ_ h=>?_;refine eF Z Z Z<|go h λ_ h=>?_;obtain ⟨Ks1,es1,ws1,h,ks1⟩:=sumL h;refine T.join (S:=Unit) (G:=Unit) (λs1=>Ks1 s1=Rk q) (λs1 gh=>True) (λs1 gh=>[]) (λs1 gh=>[]) (λs1 gh h hg=>?_) ?_
 ·clear ks1;subst es1;exact gf h
 refine go h λ_ h=>?_;refine tU h (λs4=>[(13,I s4),(12,I (m.length:Int)),(11,eL aj.c m),(4,.fp (QW.c x) 0),(0,eL (cL QV.c) p)]) (λs4=>[]) λs4 ws4 h=>?_;refine go h λ_ h=>?_;refine jH ?_;refine jN Z h (λq6 h=>?_) λq6 h=>?_
 ·refine go h λ_ h=>?_;refine gs h λ_ h=>?_;refine oC h (λ_=>AR _ _ _) Z Z Z Z λv8 _ h=>(go h λ_ h=>?_);refine oC h (λ_=>yM _ _) Z Z Z Z λv9 _ h=>?_;refine gi h (λ_ q10 h=>?_) λ_ q10 h=>?_
  ·refine go h λ_ h=>?_;refine lX h λh=>?_;obtain rfl:=QU h;replace h:=congrArg Rk (show _=_ from ks1);exact gf h
  refine go h λ_ h=>?_;exact lE h Re
 refine jM<|lX h λh=>?_
 cases h
 exact ⟨(),(),ks1,trivial,Re⟩
theorem xC (p:List<|List QV) (x:QW) (m:List aj) {q} (h:kF p x m=Rk q):ax Rn 12 [eL (cL QV.c) p,.agg (QW.c x),eL aj.c m] (.tup [I q.1,Bo q.2]):=by
 refine pM func12 Z (by kernel_rfl) Z<|go h λ_ h=>?_;refine eF Z Z Z<|go h λ_ h=>?_;refine gs h λ_ h=>?_;refine oC h (λ_=>m6 _ _) Z Z Z Z λv1 _ h=>(go h λ_ h=>?_);refine TO.jB h 4 (λs2=>[(18,Bo s2),(4,.fp (QW.c x) 0),(0,eL (cL QV.c) p),(2,eL aj.c m)]) (λs2=>[]) (λs2 q3 h js2=>?_) (λs2 q3 h js2=>?_) λs2 h=>?_
 ·exact gj h js2
 ·refine go h λ_ h=>?_;refine jB h λv4 cv4 h=>gN Z q3 (QR.call Z Z Z (rq m cv4) Z) ?_;exact gj h js2
 refine gi h (λ_ q5 h=>?_) λ_ q5 h=>?_
 ·exact gf h
 refine go h λ_ h=>?_;refine oC h (λ_=>xB _ _ _) Z Z Z Z λv6 _ h=>?_;exact gf h
theorem Ct (p:List<|List QV) {q} (h:yl p=Rk q):ax Rn 96 [eL (cL QV.c) p] (.ifc 183<|.fp (QZ.c q) 0):=by
 refine pM func96 Z (by kernel_rfl) Z<|go h λ_ h=>?_;refine eF Z Z Z ?_;exact gz h
theorem kP (v:QY) (t:Int) {q} (h:dH v t=Rk q):ax Rn 314 [.fp (QY.c v) 0,I t] (.tup [.agg (QV.c q.1),Bo q.2]):=by
 refine pM func314 Z (by kernel_rfl) Z<|go h λ_ h=>?_;refine jH<|jH<|T.drawP (by kernel_rfl) (by kernel_rfl) ?_;refine go h λf h=>?_;obtain ⟨g1,_⟩:=f;refine fN Z (lf1 (λz0=>Y<|Z3b.get v.pc z0) g1 ty5 Z Z Z Z)<|go h λf h=>?_;obtain ⟨g3,_⟩:=f;refine jN Z h (λq4 h=>?_) λq4 h=>?_
 ·exact gf h
 refine go h λ_ h=>?_;refine jH ?_;refine T.cl [4,0,1] Z<|jP (dG [dF,dF,dF,dF,dF,dF,dF,dF,dF,dF,dF,dF,dF,dF,dF,([0],Ri),dF]) (by kernel_rfl) (by kernel_rfl) ?_;refine go h λ_ h=>?_;refine fN Z (lf1 (λz0=>Y<|Z3b.get v.pc z0) g1 ty5 Z Z Z Z) ?_;exact gf h
theorem yN (s:QZ) {q} (h:lm s=Rk q):ax Rn 312 [.fp (QZ.c s) 0] (eL cI q):=by
 refine pM func312 Z (by kernel_rfl) Z<|jI ?_;refine gq h λ_ h=>?_;refine jH<|T.reserve ?_;refine go h λ_ h=>?_;refine T.jF (G:=(Bool×Nat)) h (λs1 gh=>(gh.1=Ri->s1=[])) (λs1 gh=>[(3,hS gh.1 0 gh.2 1 s1.length)]) (λs1 gh=>[bE gh.1 gh.2 1 3 (s1.map cI)]) (λs1 gh h n23=>?_) λs1 h=>?_
 ·obtain ⟨b22,u21⟩:=gh;exact gf h
 refine go h λ_ h=>?_;refine tL h (Ri,0) (λs7 gh=>(gh.1=Ri->s7.1=[])) (λs7 gh=>[(13,I s7.2),(12,I (s.values.p.length:Int)),(3,hS gh.1 0 gh.2 1 s7.1.length),(0,.fp (QZ.c s) 0)]) (λs7 gh=>[bE gh.1 gh.2 1 3 (s7.1.map cI)]) qD λs7 gh ws7 h n11=>?_;obtain ⟨b10,u9⟩:=gh;refine go h λ_ h=>?_;refine jH ?_;refine jN Z h (λq12 h=>?_) λq12 h=>?_
 ·refine go h λ_ h=>?_;refine T.jF (G:=(Bool×Nat)) h (λs13 gh=>(gh.1=Ri->s13=[])) (λs13 gh=>[(3,hS gh.1 0 gh.2 1 s13.length),(13,I s7.2),(12,I (s.values.p.length:Int)),(0,.fp (QZ.c s) 0)]) (λs13 gh=>[bE gh.1 gh.2 1 3 (s13.map cI)]) (λs13 gh h n19=>?_) λs13 h=>?_
  ·obtain ⟨b18,u17⟩:=gh;refine go h λ_ h=>?_;obtain rfl:=QU h;exact ⟨(s13,(s7.2+V)),(b18,u17),Z,n19,Re⟩
  refine go h λ_ h=>?_;refine oC h (λ_=>kP _ _) Z Z Z Z λv14 _ h=>?_;refine gi h (λ_ q15 h=>?_) λ_ q15 h=>?_
  ·refine gk h λ_ _ h=>?_
   cases h
   exact ⟨(Rj,u9+1),nofun,Re⟩
  refine go h λ_ h=>?_
  cases h
  exact ⟨(b10,u9),n11,Re⟩
 refine jM<|lX h λh=>?_
 cases h
 exact ⟨(b10,u9),n11,Re⟩
theorem uV (v:QY) (t:Int) (x:QV) {q} (h:kK v t x=Rk q):ax Rn 315 [.fp (QY.c v) 0,I t,.agg (QV.c x)] (Y q):=by
 refine pM func315 Z (by kernel_rfl) Z<|go h λ_ h=>?_;refine eF Z Z Z<|go h λ_ h=>?_;refine Rb h (λ_ q1 h=>?_) λ_ q1 h=>?_
 ·refine jH<|T.drawP (by kernel_rfl) (by kernel_rfl) ?_;refine go h λf h=>?_;obtain ⟨g3,g2,_⟩:=f;refine fN Z (lf2 (λz0 z1=>Y<|Z3b.get (Z33.get v.reg z0) z1) g2 g3 ty5 Z ⟨Z,Z,Z,Z,Z,Z,Z,Z,Z⟩) ?_;exact gz h
 exact gz h
theorem yO (s:QZ) (t:Int) {q} (h:lq s t=Rk q):ax Rn 308 [.fp (QZ.c s) 0,I t] (.ifc 183<|.fp (QZ.c q) 0):=by
 let d0:=(Z3b.set s.values.pc t<|(Z3b.get s.values.pc t)+V);refine pM func308 Z (by kernel_rfl) Z<|go h λ_ h=>?_;refine oC h (λ_=>kP _ _) Z Z Z Z λv1 _ h=>(go h λf h=>?_);obtain ⟨g2,_⟩:=f;refine oA (lh1 (λz0=>Y<|Z3b.get s.values.pc z0) g2 ty5 Z Z Z Z Z)<|go h λ_ h=>?_;refine oV (sr1 (λz0=>(QZ.c (⟨(⟨s.values.p,(Z3b.set s.values.pc z0<|(Z3b.get s.values.pc t)+V),s.values.reg,s.values.mem⟩:QY)⟩:QZ))) g2 ty5 Z Z Z Z Z Z)<|go h λ_ h=>?_;refine jH ?_;refine T.cl [6,5,0,1] Z<|jP (dG [dF,dF,dF,dF,([1],Rj),dF,dF]) (by kernel_rfl) (by kernel_rfl) ?_;refine go h λ_ h=>?_;refine fC h (λ_=>uV _ _ _) Z Z Z Z Z λv4 _ h=>(go h λ_ h=>?_);refine T.jU h (λs5=>[(8,Y v4),(6,.hp 1 0 4 0 0),(5,.hp 0 0 16 0 0)]) (λs5=>[Rk ⟨0,16,189,[(QZ.c (⟨(⟨s.values.p,d0,(⟨(⟨s5.1,s5.2.1,s5.2.2.1⟩:Z3b),(⟨s5.2.2.2.1,s5.2.2.2.2.1,s5.2.2.2.2.2.1⟩:Z3b),(⟨s5.2.2.2.2.2.2.1,s5.2.2.2.2.2.2.2.1,s5.2.2.2.2.2.2.2.2⟩:Z3b)⟩:Z33),s.values.mem⟩:QY)⟩:QZ))]⟩,Rk ⟨0,4,79,[[I v1.1.Op,I v1.1.Loc,I v1.1.Reg,I v1.1.Val]]⟩]) (λs5 h=>?_) λs5 h=>?_
 ·refine T.jU h (λs10=>[(5,.hp 0 0 16 0 0)]) (λs10=>[Rk ⟨0,16,189,[(QZ.c (⟨(⟨s.values.p,d0,(⟨(⟨s5.1,s5.2.1,s5.2.2.1⟩:Z3b),(⟨s5.2.2.2.1,s5.2.2.2.2.1,s5.2.2.2.2.2.1⟩:Z3b),(⟨s5.2.2.2.2.2.2.1,s5.2.2.2.2.2.2.2.1,s5.2.2.2.2.2.2.2.2⟩:Z3b)⟩:Z33),(⟨s10.1,s10.2.1,s10.2.2⟩:Z3b)⟩:QY)⟩:QZ))]⟩,Rk ⟨0,4,79,[[I v1.1.Op,I v1.1.Loc,I v1.1.Reg,I v1.1.Val]]⟩]) (λs10 h=>?_) λs10 h=>?_
  ·exact gf h
  refine go h λ_ h=>?_;refine oC h (λ_=>bW _) Z Z Z Z λv11 _ h=>?_;refine gi h (λ_ q12 h=>?_) λ_ q12 h=>?_
  ·refine go h λf h=>?_;obtain ⟨g13,_⟩:=f;refine oV (sr1 (λz0=>(QZ.c (⟨(⟨s.values.p,d0,(⟨(⟨s5.1,s5.2.1,s5.2.2.1⟩:Z3b),(⟨s5.2.2.2.1,s5.2.2.2.2.1,s5.2.2.2.2.2.1⟩:Z3b),(⟨s5.2.2.2.2.2.2.1,s5.2.2.2.2.2.2.2.1,s5.2.2.2.2.2.2.2.2⟩:Z3b)⟩:Z33),(Z3b.set s.values.mem z0 v4)⟩:QY)⟩:QZ))) g13 ty5 Z Z Z Z Z Z)<|go h λ_ h=>?_
   cases h
   exact ⟨(),trivial,Re⟩
  refine go h λ_ h=>?_
  cases h
  exact ⟨(),trivial,Re⟩
 refine go h λ_ h=>?_;refine oC h (λ_=>gD _) Z Z Z Z λv6 _ h=>?_;refine gi h (λ_ q7 h=>?_) λ_ q7 h=>?_
 ·refine jP (dG [dF,dF,([1],Rj),dF,dF,([1],Rj),dF,dF,dF,dF,dF,dF,dF,dF,dF,([0],Ri)]) (by kernel_rfl) (by kernel_rfl)<|go h λf h=>?_;obtain ⟨g8,_⟩:=f;refine fN Z (lf1 (λz0=>Y<|Z3b.get s.values.mem z0) g8 ty5 Z Z Z Z)<|go h λf h=>?_;obtain ⟨g9,_⟩:=f;refine fV 0 [] Z Z (λG hG=>sr2 (λz0 z1=>(QZ.c (⟨(⟨s.values.p,d0,(⟨((Z33.set s.values.reg z0<|Z3b.set (Z33.get s.values.reg z0) z1<|Z3b.get s.values.mem v1.1.Loc).x0),((Z33.set s.values.reg z0<|Z3b.set (Z33.get s.values.reg z0) z1<|Z3b.get s.values.mem v1.1.Loc).x1),((Z33.set s.values.reg z0<|Z3b.set (Z33.get s.values.reg z0) z1<|Z3b.get s.values.mem v1.1.Loc).x2)⟩:Z33),s.values.mem⟩:QY)⟩:QZ))) g2 g9 ty5 Z Z (hG.a0 Z) ⟨Z,Z,Z,Z,Z,Z,Z,Z,Z⟩)<|go h λ_ h=>?_
  cases h
  exact ⟨(),trivial,Re⟩
 refine go h λ_ h=>?_
 cases h
 exact ⟨(),trivial,Re⟩
theorem sM (s:QZ) (moves:LI) {q} (h:iz s moves=Rk q):ax Rn 162 [.ifc 183 (.fp (QZ.c s) 0),eL cI moves] (.tup [ifO 183 QZ.c q.1,Bo q.2]):=by
 refine pM func162 Z (by kernel_rfl) Z<|go h λ_ h=>?_;obtain ⟨Ks1,es1,ws1,h,ks1⟩:=sumL h;refine T.join (S:=QZ) (G:=Unit) (λs1=>Ks1 s1=Rk q) (λs1 gh=>True) (λs1 gh=>[(0,.ifc 183<|.fp (QZ.c s1) 0)]) (λs1 gh=>[]) (λs1 gh h hg=>?_) ?_
 ·clear ks1;subst es1;exact gf h
 refine go h λ_ h=>?_;refine tU h (λs4=>[(10,I s4.1),(9,I (moves.length:Int)),(8,eL cI moves),(0,.ifc 183<|.fp (QZ.c s4.2) 0)]) (λs4=>[]) λs4 ws4 h=>?_;refine go h λ_ h=>?_;refine jH ?_;refine jN Z h (λq6 h=>?_) λq6 h=>?_
 ·refine go h λ_ h=>?_;refine gs h λ_ h=>?_;refine gs h λ_ h=>?_;refine jB h λv8 cv8 h=>oN (QR.invS 16 Z Z (MethT.of (off:=0)<|by kernel_rfl) Z Z (yN s4.2 cv8) Z)<|go h λ_ h=>?_;refine oC h (λ_=>kr _ _) Z Z Z Z λv9 _ h=>?_;refine gi h (λ_ q10 h=>?_) λ_ q10 h=>?_
  ·refine go h λ_ h=>?_;refine lX h λh=>?_;obtain rfl:=QU h;replace h:=congrArg Rk (show _=_ from ks1);exact gf h
  refine go h λ_ h=>?_;refine jB h λv11 cv11 h=>oN (QR.invS 16 Z Z (MethT.of (off:=0)<|by kernel_rfl) Z Z (yO s4.2 (J moves s4.1) cv11) Z)<|go h λ_ h=>?_;exact lE h Re
 refine jM<|lX h λh=>?_;obtain rfl:=QU h;exact ⟨s4.2,(),ks1,trivial,Re⟩
theorem uC (v:QY) {q} (h:jv v=Rk q):ax Rn 309 [.fp (QY.c v) 0] (Bo q):=by
 refine pM func309 Z (by kernel_rfl) Z<|go h λ_ h=>?_;obtain ⟨Ks1,es1,ws1,h,ks1⟩:=sumL h;refine T.join (S:=Unit) (G:=Unit) (λs1=>Ks1 s1=Rk q) (λs1 gh=>True) (λs1 gh=>[]) (λs1 gh=>[]) (λs1 gh h hg=>?_) ?_
 ·clear ks1;subst es1;exact gz h
 refine go h λ_ h=>?_;refine tU h (λs4=>[(11,I s4),(10,I (v.p.length:Int)),(0,.fp (QY.c v) 0)]) (λs4=>[]) λs4 ws4 h=>?_;refine go h λ_ h=>?_;refine jH ?_;refine jN Z h (λq6 h=>?_) λq6 h=>?_
 ·refine go h λ_ h=>?_;refine gs h λ_ h=>?_;refine oC h (λ_=>kP _ _) Z Z Z Z λv7 _ h=>?_;refine gi h (λ_ q8 h=>?_) λ_ q8 h=>?_
  ·refine go h λ_ h=>?_;refine lX h λh=>?_;obtain rfl:=QU h;replace h:=congrArg Rk (show _=_ from ks1);exact gz h
  refine go h λ_ h=>?_;exact lE h Re
 refine jM<|lX h λh=>?_
 cases h
 exact ⟨(),(),ks1,trivial,Re⟩
theorem zR (s:QZ) {q} (h:jw s=Rk q):ax Rn 310 [.fp (QZ.c s) 0] (Bo q):=by
 refine pM func310 Z (by kernel_rfl) Z<|go h λ_ h=>?_;refine oC h (λ_=>uC _) Z Z Z Z λv1 _ h=>?_;exact gz h
end
end Go.Proofs.YtabfkkjdfhbngaaGreatDoor
