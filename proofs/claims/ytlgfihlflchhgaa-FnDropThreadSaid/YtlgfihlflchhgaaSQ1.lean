/-
 The program's code computes the functions over plain values; printed by lift.py. No conditions.
-/
import Derived.Test.YtlgfihlflchhgaaSQd
import Derived.Test.YtlgfihlflchhgaaSf
import Derived.Test.YtlgfihlflchhgaaGH
namespace Go.Proofs.Ytlgfihlflchhgaa
open Go.RowKit
set_option maxRecDepth 100000
theorem F_spec_l17Open_P (code:List Int) {q:Xspec_l17Rd} (h:F_spec_l17Open code=some q):ACall Try.prog 33 [eL cY code] [] (.hp 0 0 2 0 0) [some ⟨0,2,86,[(Xspec_l17Rd.c q)]⟩]:=by
 refine aM Try.func33 rfl (by kernel_rfl) rfl (T.sr (oN as' (TO.nil ?_)))
 refine T.jU h (fun s1=>[(0,eL cY s1)]) (fun s1=>[]) (fun s1 h => ?_) (fun s1 h => ?_)
 ·refine T.sr (oN mv (oN (EvN.build [eL cY s1,I (0:Int)] Try.underlying86 zs86 fs86 rfl rfl) (oA (EvA.bx (cs:=[eL cY s1,I (0:Int)]) rfl rfl rfl) (oN as' (TO.nil (T.ret ?_))))))
  obtain rfl:=osj h
  repeat (first|refine retS ?_|refine retB ?_)
  exact ⟨envOf [(2,.hp 0 0 2 0 0)],[some ⟨0,2,86,[(Xspec_l17Rd.c (⟨s1,(0:Int)⟩:Xspec_l17Rd))]⟩],kw rfl rfl,Fin.ret (vs:=[.hp 0 0 2 0 0]) (.cons (.tmp rfl) .nil) ⟨rfl,rfl⟩⟩
 ·refine T.sr (oN mv (oN (EvN.lenL sl22 rfl) (oN (EvN.igt rfl rfl) (TO.nil ?_))))
  refine T.ifH rfl h (fun q2 h => ?_) (fun q2 h => ?_)
  ·refine T.region (oN mv (jD h fun g3 h=>oN (EvN.slL sl22 rfl .no (.yes rfl) g3 (fun _=>rfl)) (oN as' (TO.nil ?_))))
   obtain rfl:=osj h
   exact ⟨(),trivial,kw rfl rfl⟩
  ·refine T.skip ?_
   obtain rfl:=osj h
   exact ⟨(),trivial,kw rfl rfl⟩
set_option maxHeartbeats 4000000 in
theorem F_spec_l17Rd_pick_P (r_:Xspec_l17Rd) (n:Int) (ver0:Nat) {q:Xspec_l17Rd×Int} (h:F_spec_l17Rd_pick r_ n=some q):ACall Try.prog 46 [.hp 0 ver0 2 0 0,I n] [some ⟨ver0,2,86,[(Xspec_l17Rd.c r_)]⟩] (I q.2) [some ⟨ver0,2,86,[(Xspec_l17Rd.c q.1)]⟩]:=by
 refine aM Try.func46 rfl (by kernel_rfl) rfl (T.sr (oN as' (TO.nil (T.sr (oN mv (oN mv (oN (nl rfl) (oN (fa fs86 rfl) (oA (lh (I r_.p) ty3 rfl rfl rfl) (jW h fun g1 h=>oN (EvN.add rfl rfl g1) (oN (nl rfl) (oN (fa fs86 rfl) (oV (sr [eL cY r_.b,I (r_.p+(1:Int))] ty3 rfl rfl rfl rfl) (TO.nil ?_))))))))))))))
 refine T.seq (T.sr (oN mv (oN (EvN.ilt rfl rfl) (oN mv ?_))))
 refine TO.jB h 7 (fun s2=>[(24,Bo s2),(0,.hp 0 ver0 2 0 0),(1,I n)]) (fun s2=>[some ⟨ver0,2,86,[[eL cY r_.b,I (r_.p+(1:Int))]]⟩]) (fun s2 q3 h js2 => ?_) (fun s2 q3 h js2 => ?_) (fun s2 h => ?_)
 ·refine gS rfl q3 (gS rfl q3 (gS rfl q3 (gS rfl q3 (gS rfl q3 (gS rfl q3 (oN (EvN.pickT rfl q3 (Bo true) rfl) ?_))))))
  obtain rfl:=osj h
  exact js2 _ _ (kw rfl rfl)
 ·refine gN rfl q3 mv (gN rfl q3 (nl rfl) (gN rfl q3 (fa fs86 rfl) (gA rfl q3 (lh (eL cY r_.b) ty22 rfl rfl rfl) (gN rfl q3 (EvN.lenL sl22 rfl) (gN rfl q3 (EvN.ieq rfl rfl) (oN (EvN.pickF rfl q3 (Bo ((r_.b.length:Int)==(0:Int))) rfl) ?_))))))
  obtain rfl:=osj h
  exact js2 _ _ (kw rfl rfl)
 ·refine TO.nil ?_
  refine T.ifH rfl h (fun q4 h => ?_) (fun q4 h => ?_)
  ·refine T.sr (oN as' (TO.nil (T.ret ?_)))
   obtain rfl:=osj h
   repeat (first|refine retS ?_|refine retB ?_)
   exact ⟨envOf [(4,I (0:Int))],[some ⟨ver0,2,86,[(Xspec_l17Rd.c (⟨r_.b,(r_.p+(1:Int))⟩:Xspec_l17Rd))]⟩],kw rfl rfl,Fin.ret (vs:=[I (0:Int)]) (.cons (.tmp rfl) .nil) ⟨rfl,rfl⟩⟩
  ·refine T.skip (T.sr (oN mv (oN (nl rfl) (oN (fa fs86 rfl) (oA (lh (I (r_.p+(1:Int))) ty3 rfl rfl rfl) (jW h fun g5 h=>oN (EvN.sub rfl rfl g5) (oN as' (TO.nil (T.seq (T.sr (oN mv (oN mv (oN (nl rfl) (oN (fa fs86 rfl) ?_))))))))))))))
   refine oA (lh (eL cY r_.b) ty22 rfl rfl rfl) (oN (EvN.lenL sl22 rfl) (oN (EvN.ilt rfl rfl) (TO.nil ?_)))
   refine T.ifH rfl h (fun q6 h => ?_) (fun q6 h => ?_)
   ·refine T.sr (oN mv (oN (nl rfl) (oN (fa fs86 rfl) (oA (lh (eL cY r_.b) ty22 rfl rfl rfl) (oN mv (jD h fun g7 h=>oN (EvN.ixL sl22 rfl rfl g7 (fun _=>rfl)) (oN (lf (Y (r_.b.getD ((r_.p+(1:Int))-(1:Int)).toNat default)) ty5 rfl) (jW h fun g8 h=>oN (EvN.iconv ty5.und Try.underlying3 rfl g8) (oN mv (jD h fun g9 h=>oN (EvN.rem rfl rfl g9) (oN as' (TO.nil ?_))))))))))))
    refine T.ret ?_
    obtain rfl:=osj h
    repeat (first|refine retS ?_|refine retB ?_)
    exact ⟨envOf [(4,I ((r_.b.getD ((r_.p+(1:Int))-(1:Int)).toNat default).tmod n))],[some ⟨ver0,2,86,[(Xspec_l17Rd.c (⟨r_.b,(r_.p+(1:Int))⟩:Xspec_l17Rd))]⟩],kw rfl rfl,Fin.ret (vs:=[I ((r_.b.getD ((r_.p+(1:Int))-(1:Int)).toNat default).tmod n)]) (.cons (.tmp rfl) .nil) ⟨rfl,rfl⟩⟩
   ·refine T.skip (T.seq (T.drawF (fun i=>[([],false),([],false),([],false),([0],false),([],false),([],false),([],false),([],false),([0],false),([],false),([],false),([],false),([],false),([],false),([],false),([],false),([],false),([],false),([0],false),([],false),([],false),([],false),([],false),([],false),([],false),([0],false),([],false),([],false),([],false),([],false),([],false),([],false),([],false),([],false),([],false),([],false),([],false),([],false),([],false),([],false),([0],false),([],false),([],false),([],false),([],false),([],false)].getD i ([],false)) (by kernel_rfl) (by kernel_rfl) (fN rfl mv (fN rfl (nl rfl) (fN rfl (fa fs86 rfl) (fR [0] rfl (fun G hG=>EvA.loadhp (eL cY r_.b) ty22 rfl (hG.a0 rfl) rfl rfl rfl rfl) (fN rfl mv (fN rfl mv (fN rfl (nl rfl) (fN rfl (fa fs86 rfl) (fR [0] rfl (fun G hG=>EvA.loadhp (eL cY r_.b) ty22 rfl (hG.a0 rfl) rfl rfl rfl rfl) (fN rfl (EvN.lenL sl22 rfl) (jD h fun g10 h=>fN rfl (EvN.rem rfl rfl g10) (jD h fun g11 h => ?_))))))))))))))
    refine fN rfl (EvN.ixL sl22 rfl rfl g11 (fun _=>rfl)) (fN rfl (lf (Y (r_.b.getD (((r_.p+(1:Int))-(1:Int)).tmod (r_.b.length:Int)).toNat default)) ty5 rfl) (jW h fun g12 h=>fN rfl (EvN.iconv ty5.und Try.underlying3 rfl g12) (jW h fun g13 h=>fN rfl (EvN.mul rfl rfl g13) (fN rfl mv (fN rfl (nl rfl) (fN rfl (fa fs86 rfl) (fR [0] rfl (fun G hG=>EvA.loadhp (eL cY r_.b) ty22 rfl (hG.a0 rfl) rfl rfl rfl rfl) (fN rfl mv (jW h fun g14 h=>fN rfl (EvN.mul rfl rfl g14) (jW h fun g15 h=>fN rfl (EvN.add rfl rfl g15) (fN rfl mv ?_)))))))))))
    refine fN rfl (nl rfl) (fN rfl (fa fs86 rfl) (fR [0] rfl (fun G hG=>EvA.loadhp (eL cY r_.b) ty22 rfl (hG.a0 rfl) rfl rfl rfl rfl) (fN rfl (EvN.lenL sl22 rfl) (fN rfl (EvN.rem rfl rfl g10) (jD h fun g16 h=>fN rfl (EvN.ixL sl22 rfl rfl g16 (fun _=>rfl)) (fN rfl (lf (Y (r_.b.getD (((((r_.p+(1:Int))-(1:Int))*(7:Int))+(3:Int)).tmod (r_.b.length:Int)).toNat default)) ty5 rfl) (jW h fun g17 h=>fN rfl (EvN.iconv ty5.und Try.underlying3 rfl g17) (jW h fun g18 h=>fN rfl (EvN.mul rfl rfl g18) (jW h fun g19 h=>fN rfl (EvN.add rfl rfl g19) (fN rfl mv (jW h fun g20 h => ?_)))))))))))
    refine fN rfl (EvN.mul rfl rfl g20) (jW h fun g21 h=>fN rfl (EvN.add rfl rfl g21) (fN rfl mv (fN rfl mv (fN rfl (nl rfl) (fN rfl (fa fs86 rfl) (fR [0] rfl (fun G hG=>EvA.loadhp (eL cY r_.b) ty22 rfl (hG.a0 rfl) rfl rfl rfl rfl) (fN rfl (EvN.lenL sl22 rfl) (jW h fun g22 h=>fN rfl (EvN.quo rfl rfl g10 g22) (jW h fun g23 h=>fN rfl (EvN.mul rfl rfl g23) (jW h fun g24 h=>fN rfl (EvN.add rfl rfl g24) (fN rfl as' ?_)))))))))))
    refine TF.nil (T.seq (T.clean (H0:=[some ⟨ver0,2,86,[[eL cY r_.b,I (r_.p+(1:Int))]]⟩]) (e0:=envOf [(6,I (((((r_.b.getD (((r_.p+(1:Int))-(1:Int)).tmod (r_.b.length:Int)).toNat default)*(131:Int))+((r_.b.getD (((((r_.p+(1:Int))-(1:Int))*(7:Int))+(3:Int)).tmod (r_.b.length:Int)).toNat default)*(1117:Int)))+(((r_.p+(1:Int))-(1:Int))*(29:Int)))+((((r_.p+(1:Int))-(1:Int)).tdiv (r_.b.length:Int))*(53:Int)))),(1,I n)]) rfl (wkC rfl (wkC rfl wkN)) (T.region (oN mv (oN mv (jD h fun g25 h=>jW h fun g26 h=>oN (EvN.quo rfl rfl g25 g26) (jB h fun w27 ew27 h => ?_)))))))
    replace ew27:=osi ew27
    refine oN (EvN.res (EvN.bxor rfl rfl) (r':=I w27) (fun _ _ hr=>by rw [<- ew27];exact hr)) (oN as' (TO.nil (T.sr (oN mv (oN mv (jD h fun g28 h=>oN (EvN.rem rfl rfl g28) (oN as' (TO.nil (T.ret ?_)))))))))
    obtain rfl:=osj h
    repeat (first|refine retS ?_|refine retB ?_)
    exact ⟨envOf [(4,I (w27.tmod n))],[some ⟨ver0,2,86,[(Xspec_l17Rd.c (⟨r_.b,(r_.p+(1:Int))⟩:Xspec_l17Rd))]⟩],kw rfl rfl,Fin.ret (vs:=[I (w27.tmod n)]) (.cons (.tmp rfl) .nil) ⟨rfl,rfl⟩⟩
theorem F_spec_l17Rd_num_P (r_:Xspec_l17Rd) (list:List Int) (ver0:Nat) {q:Xspec_l17Rd×Int} (h:F_spec_l17Rd_num r_ list=some q):ACall Try.prog 36 [.hp 0 ver0 2 0 0,eL cI list] [some ⟨ver0,2,86,[(Xspec_l17Rd.c r_)]⟩] (I q.2) [some ⟨ver0,2,86,[(Xspec_l17Rd.c q.1)]⟩]:=by
 refine aM Try.func36 rfl (by kernel_rfl) rfl (T.sr (oN as' (TO.nil (T.sr (oN mv (oN mv (oN mv (oN (EvN.lenL sl63 rfl) (jB h fun v1 cv1 h=>oA (EvA.call rfl rfl rfl ((F_spec_l17Rd_pick_P (⟨r_.b,r_.p⟩:Xspec_l17Rd) (list.length:Int) ver0 cv1).one 0 rfl (.cons (.hp rfl) (.cons (.pF rfl) .nil)) (rowsF_row rfl) (rowsF_row rfl) rfl)) (jD h fun g2 h=>oN (EvN.ixL sl63 rfl rfl g2 (fun _=>rfl)) (oN (lf (I (list.getD v1.2.toNat default)) ty3 rfl) (oN as' (TO.nil ?_)))))))))))))
 refine T.ret ?_
 obtain rfl:=osj h
 repeat (first|refine retS ?_|refine retB ?_)
 exact ⟨envOf [(4,I (list.getD v1.2.toNat default))],[some ⟨ver0,2,86,[(Xspec_l17Rd.c (⟨v1.1.b,v1.1.p⟩:Xspec_l17Rd))]⟩],kw rfl rfl,Fin.ret (vs:=[I (list.getD v1.2.toNat default)]) (.cons (.tmp rfl) .nil) ⟨rfl,rfl⟩⟩
end Go.Proofs.Ytlgfihlflchhgaa
