/- Part of a proof. -/
import Derived.Test.YtpdjhlcbcomdkaaGreatDoorT11
set_option linter.unusedVariables false
set_option linter.unusedSimpArgs false
set_option maxRecDepth 100000
set_option maxHeartbeats 16000000
open Go Go.Q Go.Qr Go.Proofs.Tryz
namespace Go.Proofs.Rm
open Go.RowKit Go.Proofs.Heap Go.Proofs.Mem
theorem O_(l:List Vd):(l.flatMap Yy).length=l.length*2:=XN Yy 2 (fun _=>rfl) l
theorem Pb(l:List Vd):∀u∈l.flatMap Yy,u.oneCell'=true:=by
 intro u hu;obtain⟨x,_,hx⟩:=List.mem_flatMap.1 hu;exact KQ x u hx
theorem vC(b:Nat)(T:ZO)(p:Int)(w:World)(hR:ZM w b T)(Vl:T.Small)(hp:1≤p)(hs:0≤T.XD p) :
  Calls prog 97 (Qj (some ⟨b,0,none⟩) p) w fun e w'=>(∃v,e = .returned v∧YD w' v (T.leave p).1)∧ZM w' b (T.leave p).2∧Fr w (· = b) w w':=by
 have hb:=hR.lt;have HL0:Hid (T.leave p=((ZO.ZL p T 8).1++(ZO.ZH p (ZO.ZL p T 8).2 8).1,(ZO.ZH p (ZO.ZL p T 8).2 8).2.Oi p)):=rfl;have HR:=Zh hR;have LY:=Zh Vl;have Hr:=Zh hs;clear hR Vl hs;go_enter func97,ntmps97;go_wp2;go_loopw [5,6] (fun v i w'=>∃k:Nat,k≤8∧i = .int .i64 ((k:Int)+1)∧Fr w (· = b) w w'∧ZM w' b (ZO.ZL p T k).2∧w'.ownsRow w 158 5 v (ZO.ZL p T k).1.length ((ZO.ZL p T k).1.flatMap Z7)) (fun _ i _=>9-(intOf i).toNat)
 case atStart=>exact⟨0,Zo,rfl,Fr.refl _ _ _,HR.o,TV _ _ _ _⟩
 case round=>
  obtain⟨k,hk,rfl,Wm,UY,YG⟩:=hrel;have T8:=Zh Wm;have Vm:=Zh UY;have Yk:=Zh YG;have Uk:=Wm.size;clear Wm UY YG;by_cases UH:k<8
  ·have HS:=Zh (KU p T k);have Ak:=(Sp p T k).2.2.2;have CA:=Zh (Wo b (ZO.ZL p T k).2 p ((k:Int)+1) wr Vm.o);have hsm2:=(Sp p T k).2.2.1 LY.o;by_cases h0:0≤(ZO.ZL p T k).2.Y6 p ((k:Int)+1)
   ·have HF:Hid (ZO.ZL p T (k+1)=((ZO.ZL p T k).1++[⟨2,p,(k:Int)+1,0,0⟩],(ZO.ZL p T k).2.WJ p ((k:Int)+1))):=by show _=_;rw[HS.o,ZU h0]
    have CE:Hid (∀w1,Below wr wr w1→Calls prog 100 (Qu (some ⟨b,0,none⟩) p ((k:Int)+1)) w1 fun e w'=>e = .returned (.agg (Qh 2 p ((k:Int)+1) 0 0))∧ZM w' b ((ZO.ZL p T k).2.WJ p ((k:Int)+1))∧Fr w1 (· = b) w1 w'):=
     fun w1 h=>Lv b (ZO.ZL p T k).2 p ((k:Int)+1) w1 (Vm.o.below h) hsm2 h0
    generalize(ZO.ZL p T k).2.Y6 p ((k:Int)+1)=q at *
    generalize ZO.ZL p T k=G at *
    go_wp2_with (first|(go_at_call 51;(with_reducible refine CA.o.mono ?_);rintro e w1 ⟨rfl,YZ⟩;have VN:=Zh YZ;have RR:=YZ.size;clear YZ)|(go_at_call 100;(with_reducible refine(CE.o _ VN.o).mono ?_);rintro e w2 ⟨rfl,OZ,R_⟩;have xB:=Zh OZ;have T4:=Zh R_;have qq:=R_.size;clear OZ R_)|(at_builtin;refine YO rfl (.tmp 18) (.tmp 23) 98 rfl w Xy _ G.1.length (G.1.flatMap Z7) rfl ?a1 _ 1 ([⟨2,p,(k:Int)+1,0,0⟩].flatMap Z7) rfl ?a2 rfl ?a4 ?a5 ?a6 ?a7 (fun v' w3 HO HG=>?_)))
    case a1=>exact(Wv (Zv Yk.o VN.o) T4.o (fun k hk=>by omega)).alloc _
    case a2=>exact Yw _ _ 1 _ ([⟨2,p,(k:Int)+1,0,0⟩].flatMap Z7) Zd rfl
    case a4=>exact X4 _
    case a5=>omega
    case a6=>omega
    case a7=>simp;omega
    go_roundw
    case rel=>
     have Sa:=(Wv (Zv Yk.o VN.o) T4.o (fun k hk=>by omega)).alloc (.cells ([⟨2,p,(k:Int)+1,0,0⟩].flatMap Z7).toArray 158);have WX:=Z' w2 (.cells ([⟨2,p,(k:Int)+1,0,0⟩].flatMap Z7).toArray 158);refine⟨k+1,Zo,Zn,?_,?_,?_⟩
     ·have h2:=T8.o.trans ((Fr.Z6 (· = b) VN.o).mono Zo (fun _ _ h=>h));have h3:=h2.trans (T4.o.mono Zo (fun _ _ h=>h));exact(h3.alloc Zo _).grown HG.o Uf (YL Yk.o)
     ·rw[HF.o];exact ZM.grown (xB.o.below WX) Sa HG.o hb
     ·rw[HF.o];dsimp only;rw[UG,OD];exact HO.o
    case measure=>simp[intOf];omega
   ·have HF:Hid (ZO.ZL p T (k+1)=ZO.ZL p T k):=by show _=_;rw[HS.o,Z3 h0]
    have h0':decide (0≤(ZO.ZL p T k).2.Y6 p ((k:Int)+1))=false:=Wz h0;generalize(ZO.ZL p T k).2.Y6 p ((k:Int)+1)=q at *
    generalize ZO.ZL p T k=G at *
    go_wp2_with (go_at_call 51;(with_reducible refine CA.o.mono ?_);rintro e w1 ⟨rfl,YZ⟩)
    go_roundw
    case rel=>exact⟨k+1,Zo,Zn,T8.o.trans ((Fr.Z6 (· = b) YZ).mono Uk (fun _ _ h=>h)),by rw[HF.o];exact Vm.o.below YZ,by rw[HF.o];exact Zv Yk.o YZ⟩
    case measure=>simp[intOf];omega
  ·obtain rfl:k=8:=by omega
   have hlf:=Sp p T 8;have Ak:=hlf.2.2.2;have jO:=Zh (hlf.2.2.1 LY.o);have HPE:=Zh hlf.2.1;have rN:Hid (∀k,ZO.ZH p (ZO.ZL p T 8).2 (k+1)=if(ZO.ZH p (ZO.ZL p T 8).2 k).2.owner ((k:Int)+1)=p then((ZO.ZH p (ZO.ZL p T 8).2 k).1++((ZO.ZH p (ZO.ZL p T 8).2 k).2.Yo ((k:Int)+1)).1,((ZO.ZH p (ZO.ZL p T 8).2 k).2.Yo ((k:Int)+1)).2)else ZO.ZH p (ZO.ZL p T 8).2 k):=fun k=>KY p _ k
   have HLF:Hid (∀k,(ZO.ZH p (ZO.ZL p T 8).2 k).2.Zz=(ZO.ZL p T 8).2.Zz∧(ZO.ZH p (ZO.ZL p T 8).2 k).2.Small∧(ZO.ZH p (ZO.ZL p T 8).2 k).1.length≤k*16):=fun k=>⟨(Sq p _ k).1,(Sq p _ k).2.1 jO.o,(Sq p _ k).2.2⟩
   have tH:Hid (ZO.ZH p (ZO.ZL p T 8).2 0=([],(ZO.ZL p T 8).2)):=rfl;clear hlf;generalize ZO.ZL p T 8=X at *
   obtain⟨wo,rfl⟩:∃wo:World,wo=wr:=⟨_,rfl⟩;go_wp2_with fail
   go_loopw [5,7] (fun v i w'=>∃k:Nat,k≤8∧i = .int .i64 ((k:Int)+1)∧Fr w (· = b) w w'∧ZM w' b (ZO.ZH p X.2 k).2∧w'.ownsRow w 158 5 v (X.1++(ZO.ZH p X.2 k).1).length ((X.1++(ZO.ZH p X.2 k).1).flatMap Z7)) (fun _ i _=>9-(intOf i).toNat)
   case atStart=>exact⟨0,Zo,rfl,T8.o,by rw[tH.o];exact Vm.o,by rw[tH.o,rW];exact Yk.o⟩
   case round=>
    obtain⟨k,hk,rfl,Wm,UY,YG⟩:=hrel;clear T8 Vm Yk tH Uk;have T8:=Zh Wm;have Vm:=Zh UY;have Yk:=Zh YG;have Uk:=Wm.size;clear Wm UY YG;by_cases UH:k<8
    ·have HS:=Zh (rN.o k);have HGL2:=(HLF.o k).2.2;have HGN:=L5 (ZO.ZH p X.2 k).2 ((k:Int)+1);have CO:=Zh (Ox b (ZO.ZH p X.2 k).2 ((k:Int)+1) wr Vm.o);by_cases ho:(ZO.ZH p X.2 k).2.owner ((k:Int)+1)=p
     ·have HF:Hid (ZO.ZH p X.2 (k+1)=((ZO.ZH p X.2 k).1++((ZO.ZH p X.2 k).2.Yo ((k:Int)+1)).1,((ZO.ZH p X.2 k).2.Yo ((k:Int)+1)).2)):=by show _=_;rw[HS.o,ZU ho]
      have CG:Hid (∀w1,Below wr wr w1→Calls prog 98 (Qj (some ⟨b,0,none⟩) ((k:Int)+1)) w1 fun e w'=>(∃v,e = .returned v∧YD w' v ((ZO.ZH p X.2 k).2.Yo ((k:Int)+1)).1)∧ZM w' b ((ZO.ZH p X.2 k).2.Yo ((k:Int)+1)).2∧Fr w1 (· = b) w1 w'):=
       fun w1 h=>Ps b (ZO.ZH p X.2 k).2 ((k:Int)+1) w1 (Vm.o.below h) (HLF.o k).2.1 (qM Zo ho)
      rw[ho]at CO;clear ho;generalize(ZO.ZH p X.2 k).2.Yo ((k:Int)+1)=Y at *
      generalize ZO.ZH p X.2 k=G at *
      go_wp2_with (first|(go_at_call 75;(with_reducible refine CO.o.mono ?_);rintro e w1 ⟨rfl,YZ⟩;have VN:=Zh YZ;have RR:=YZ.size;clear YZ)|(go_at_call 98;(with_reducible refine(CG.o _ VN.o).mono ?_);rintro e w2 ⟨⟨tv,rfl,SX⟩,OZ,R_⟩;have EL:=Zh SX;have xB:=Zh OZ;have T4:=Zh R_;have qq:=R_.size;clear OZ R_ SX)|(at_builtin;refine YO rfl (.tmp 34) (.tmp 37) 98 rfl w Xy _ (X.1++G.1).length ((X.1++G.1).flatMap Z7) rfl ?b1 _ Y.1.length (Y.1.flatMap Z7) rfl ?b2 ?b3 ?b4 ?b5 ?b6 ?b7 (fun v' w3 HO HG=>?_)))
      case b1=>exact Wv (Zv Yk.o VN.o) T4.o (fun k hk=>by omega)
      case b2=>exact EL.o
      case b3=>exact Vx _
      case b4=>exact X4 _
      case b5=>simp;omega
      case b6=>simp;omega
      case b7=>omega
      go_roundw
      case rel=>
       repeat apply Exists.intro
       refine⟨⟨k+1,Zo,Zn,?_,?_,?_⟩,rfl⟩
       ·have h2:=T8.o.trans ((Fr.Z6 (· = b) VN.o).mono Zo (fun _ _ h=>h));have h3:=h2.trans (T4.o.mono Zo (fun _ _ h=>h));exact h3.grown HG.o Zo (YL Yk.o)
       ·rw[HF.o];exact ZM.grown xB.o (Wv (Zv Yk.o VN.o) T4.o (fun k hk=>by omega)) HG.o hb
       ·rw[HF.o];dsimp only;rw[←cL,UG,OD];exact HO.o
      case measure=>simp[intOf];omega
     ·have HF:Hid (ZO.ZH p X.2 (k+1)=ZO.ZH p X.2 k):=by show _=_;rw[HS.o,Z3 ho]
      have sk:((ZO.ZH p X.2 k).2.owner ((k:Int)+1)==p)=false:=by rw[WM];exact ho
      clear ho;generalize(ZO.ZH p X.2 k).2.owner ((k:Int)+1)=q at *
      generalize ZO.ZH p X.2 k=G at *
      go_wp2_with (go_at_call 75;(with_reducible refine CO.o.mono ?_);rintro e w1 ⟨rfl,YZ⟩)
      go_roundw
      case rel=>
       repeat apply Exists.intro
       exact⟨⟨k+1,Zo,Zn,T8.o.trans ((Fr.Z6 (· = b) YZ).mono Uk (fun _ _ h=>h)),by rw[HF.o];exact Vm.o.below YZ,by rw[HF.o];exact Zv Yk.o YZ⟩,rfl⟩
      case measure=>simp[intOf];omega
    ·obtain rfl:k=8:=by omega
     obtain⟨hpe,hsm3,-⟩:=HLF.o 8;rw[HPE.o]at hpe;clear rN HLF HPE jO;generalize ZO.ZH p X.2 8=G at *
     have g_:0≤G.2.XD p:=by rw[F_,hpe,←F_];exact Hr.o
     obtain⟨m,hm,OW,-,-⟩:=XE g_;have OW:G.2.XD p=m:=OW;have cb:=Sw b G.2 p wr Vm.o;rw[OW]at cb;have CB:=Zh cb;have HE:Hid (G.2.Oi p={G.2 with Zz:=G.2.Zz.take m++G.2.Zz.drop (m+1)}):=by show _=_;unfold ZO.Oi;rw[OW,Wl,List.eraseIdx_eq_take_drop_succ]
     have Us:=hsm3.Zz;unfold small at Us;clear cb OW g_ hsm3 hpe;go_wp2_with fail
     (with_reducible refine CB.o.mono ?_)
     rintro e V ⟨rfl,Nq⟩;have Mn:=Zh (Vm.o.below Nq);have HFV:Hid (Fr w (· = b) w V):=T8.o.trans ((Fr.Z6 _ Nq).mono Uk (fun _ _ h=>h));have HOV:=Zh (Zv Yk.o Nq);have qu:w.heap.size≤V.heap.size:=PX Uk Nq.size;clear Nq CB;obtain⟨pv,sv,uv,Yn,XF⟩:=Mn.o.Vv;have Sb:=XF.Zz;obtain⟨a,cap,rfl,OX,uz,-,-⟩:=id Sb;obtain⟨a1,run1,zt,-⟩:=Sk TM a G.2.Zz.length cap m Zo;obtain⟨a2,ny,zu,-⟩:=SI TM a G.2.Zz.length cap (m+1) Zo OX;rw[show(((m+1:Nat):Int))=(m:Int)+1 by omega]at ny
     have xE:Hid (∀w',Below V V w'→Row w' 103 (.slice a1 m cap) m ((G.2.Zz.take m).flatMap Yy)):=fun w' h=>by
      have:=zt w' _ Zo (O_ _) (Sb.below h)
      rwa[I3 Yy 2 (fun _=>rfl)]at this
     have BX:Hid (∀w',Below V V w'→Row w' 103 (.slice a2 (G.2.Zz.length-(m+1)) (cap-(m+1))) (G.2.Zz.length-(m+1)) ((G.2.Zz.drop (m+1)).flatMap Yy)):=fun w' h=>by
      have:=zu w' _ (O_ _) (Sb.below h)
      rwa[I2 Yy 2 (fun _=>rfl)]at this
     have E0:Hid (((G.2.Zz.take m).flatMap Yy).length=m*2):=by show _=_;rw[O_,SY,Nat.min_eq_left Zo]
     have rN:Hid (((G.2.Zz.drop (m+1)).flatMap Yy).length=(G.2.Zz.length-(m+1))*2):=by show _=_;rw[O_,Ra]
     have HL3:Hid ((G.2.Zz.take m++G.2.Zz.drop (m+1)).length=m+(G.2.Zz.length-(m+1))):=by show _=_;rw[UG,SY,Ra,Nat.min_eq_left Zo]
     have HC:Hid (∀w',Below V V w'→w'.cell? ⟨b,0,none⟩=some (.slice a G.2.Zz.length cap)):=fun w' h=>(h.cell (p:=⟨b,0,none⟩) T_).trans (cell_of Yn 0)
     have I8:=Mn.o.YB 0;have HFZ:Hid (∀w',Below V V w'→w'.frozen? ⟨b,0,none⟩=false):=fun w' h=>(h.frozen (p:=⟨b,0,none⟩) T_).trans I8
     have qd:m+1≤G.2.Zz.length:=hm;have iX:IntKind.i64.wrap ((m:Int)+1)=(m:Int)+1:=Te _ Zo;have gI:=HC.o V (YI _ _);have Nw:Below V V V:=YI _ _;clear I8 XF Yn Sb zt zu hm;generalize G.2.Zz.length=N at *
     go_wp2_with fail
     go_region_law (first|(refine Ze Zr (.const (.slice none 0 0)) (.tmp 48) 47 Zr V TM (.slice none 0 0) 0 [] Zr (TV _ _ _ _) (.slice a1 m cap) m ((G.2.Zz.take m).flatMap Yy) Zr ?_ E0.o (Pb _) Zo Zo ?_ ?_;(exact xE.o _ B6);(exact Below.size B6);intro v1 w2 T9 Ot;have Yp:Below V V w2:=Below.grown B6 Ot.o (Below.size B6) (YL (TV V _ 103 2));have c2:=HC.o _ Yp)|(refine Ze Zr (.tmp 49) (.tmp 56) 47 Zr V TM v1 (0+m) ([]++(G.2.Zz.take m).flatMap Yy) Zr ?_ (.slice a2 (N-(m+1)) (cap-(m+1))) (N-(m+1)) ((G.2.Zz.drop (m+1)).flatMap Yy) Zr ?_ rN.o (Pb _) Zo Zo ?_ ?_;(first|exact T9.o|exact Xb T9.o);(exact BX.o _ B6);(exact Below.size B6);intro v2 w3 Po JY;have Wf:Below V V w3:=Below.grown B6 JY.o (Below.size B6) (YL T9.o);have c3:=HC.o _ Wf;have f3:=HFZ.o _ Wf;obtain⟨va,vc,hv⟩:=Wu Po.o;subst hv))
     all_goals
      go_wp2;go_ret;have ZW:=Row.Z4 Po.o;rw[Hz,←OD,PW]at ZW;have Ej:ZM w3 b G.2:=Mn.o.below Wf;have M0:m+(N-(m+1))=(G.2.Zz.take m++G.2.Zz.drop (m+1)).length:=by rw[HL3.o]
      rw[M0]at ZW;have yE:=Ej.zE ZW;rw[←M0]at yE;refine⟨⟨_,rfl,?_⟩,?_,?_⟩
      ·rw[HL0.o];exact(((Row.Z4 HOV.o).below Wf).fr ((Fr.refl w3 (· = b) w3).setAt _ _) (Zw _) (Ej.EP Zd))
      ·rw[HL0.o];dsimp only;rw[HE.o];exact yE
      ·exact(HFV.o.trans ((Fr.Z6 _ Wf).mono qu (fun _ _ h=>h))).setAt _ _
theorem qT(b:Nat)(T:ZO)(p x:Int)(w:World)(hR:ZM w b T)(Vl:T.Small) :
  Calls prog 104 (Jc (some ⟨b,0,none⟩) p x) w fun e w'=>(∃v,e = .returned (.tuple #[v,.int .i64 (T.YW p x).2])∧YD w' v (T.YW p x).1.1)∧ZM w' b (T.YW p x).1.2∧Fr w (· = b) w w':=by
 have CO:=Zh (fun(w1:World) (h:Below w w w1)=>KR b T x w1 (hR.below h));have CP:=Zh (fun(w1:World) (h:Below w w w1)=>Sw b T p w1 (hR.below h));have CW:=Zh (fun(w1:World) (h:Below w w w1)=>Ox b T (T.of x).1 w1 (hR.below h));have CE:=Zh (fun(w1:World) (h:Below w w w1) (hs:0≤T.YV (T.of x).1)=>Ps b T (T.of x).1 w1 (hR.below h) Vl hs);have HG:Hid (T.YW p x=if !(T.of x).2.2||decide (T.XD p<0)||decide (T.owner (T.of x).1≠p)then(([],T),8)else(T.Yo (T.of x).1,0)):=rfl;have HR:=Zh hR
 have D6:Hid ((T.of x).2.2=true→0≤T.YV (T.of x).1):=fun h=>by
  unfold ZO.of at h ⊢;by_cases hh:T.Rz x<0
  ·rw[ZU hh]at h;cases h
  ·rw[Z3 hh];obtain⟨k,hk,RX,-,-⟩:=XE (show 0≤T.Rz x by omega);have RX:T.Rz x=k:=RX;dsimp only;rw[RX,Wl,JO,Q_,Ve hk];exact⟨T.Yj[k],OC hk,rfl⟩
 clear hR Vl;generalize T.YW p x=gv at *
 generalize T.of x=O at *
 obtain⟨o1,o2,o3⟩:=O;dsimp only at *
 generalize T.XD p=pa at *
 generalize T.owner o1=ow at *
 cases o3
 ·have HF:Hid (gv=(([],T),8)):=by show _=_;rw[HG.o];rfl
  go_enter func104,ntmps104;go_wp2_with (go_at_call 74;(with_reducible refine(CO.o _ (YI _ _)).mono ?_);rintro e w1 ⟨rfl,YZ⟩)
  go_ret2
  rw[HF.o];exact⟨⟨_,rfl,Row.nil _ _⟩,HR.o.below YZ,Fr.Z6 _ YZ⟩
 ·have hs:=D6.o rfl;by_cases h1:pa<0
  ·have HF:Hid (gv=(([],T),8)):=by show _=_;rw[HG.o,Ww h1];rfl
   go_enter func104,ntmps104;go_wp2_with (first|(go_at_call 74;(with_reducible refine(CO.o _ (YI _ _)).mono ?_);rintro e w1 ⟨rfl,YZ⟩)|(go_at_call 48;(with_reducible refine(CP.o _ YZ).mono ?_);rintro e w2 ⟨rfl,Zb⟩))
   go_ret2
   rw[HF.o];have hb:=YZ.trans (Zb.mono YZ.size);exact⟨⟨_,rfl,Row.nil _ _⟩,HR.o.below hb,Fr.Z6 _ hb⟩
  have h1p:0≤pa:=by omega
  have h1d:decide (pa<0)=false:=Wz h1;by_cases h2:ow=p
  ·subst h2;have HF:Hid (gv=(T.Yo o1,0)):=by show _=_;rw[HG.o,h1d];simp
   generalize T.Yo o1=Y at *
   go_enter func104,ntmps104;go_wp2_with (first|(go_at_call 74;(with_reducible refine(CO.o _ (YI _ _)).mono ?_);rintro e w1 ⟨rfl,YZ⟩)|(go_at_call 48;(with_reducible refine(CP.o _ YZ).mono ?_);rintro e w2 ⟨rfl,Zb⟩;have Ef:=YZ.trans (Zb.mono YZ.size))|(go_at_call 75;(with_reducible refine(CW.o _ Ef).mono ?_);rintro e w3 ⟨rfl,WT⟩;have Cu:=Ef.trans (WT.mono Ef.size))|(go_at_call 98;(with_reducible refine(CE.o _ Cu hs).mono ?_);rintro e w4 ⟨⟨tv,rfl,SX⟩,UY,Wm⟩))
   go_ret2
   rw[HF.o];exact⟨⟨_,rfl,SX⟩,UY,(Fr.Z6 _ Cu).trans (Wm.mono Cu.size (fun _ _ h=>h))⟩
  ·have HF:Hid (gv=(([],T),8)):=by show _=_;rw[HG.o,h1d];simp[h2]
   have sk:(ow==p)=false:=by rw[WM];exact h2
   have hbq2:(ow !=p)=true:=by rw[bne,sk];rfl
   go_enter func104,ntmps104;go_wp2_with (first|(go_at_call 74;(with_reducible refine(CO.o _ (YI _ _)).mono ?_);rintro e w1 ⟨rfl,YZ⟩)|(go_at_call 48;(with_reducible refine(CP.o _ YZ).mono ?_);rintro e w2 ⟨rfl,Zb⟩;have Ef:=YZ.trans (Zb.mono YZ.size))|(go_at_call 75;(with_reducible refine(CW.o _ Ef).mono ?_);rintro e w3 ⟨rfl,WT⟩;have Cu:=Ef.trans (WT.mono Ef.size)))
   go_ret2
   rw[HF.o];exact⟨⟨_,rfl,Row.nil _ _⟩,HR.o.below Cu,Fr.Z6 _ Cu⟩
end Go.Proofs.Rm
namespace Go.Proofs.Rm
open Go.RowKit Go.Proofs.Heap Go.Proofs.Mem
theorem O9{w:World}{base:Nat}{e:TypeId}{size:Nat}{v:Value}{n:Nat}{xs:List Value}(h:w.ownsRow base e size v n xs)(hn:0<n):∃g cap cur,v = .slice (some ⟨g,0,none⟩) n cap∧base≤g∧w.heap[g]?=some (.cells cur e):=by
 obtain⟨_,h⟩:=h;rcases h with⟨_,h⟩|⟨g,cap,cur,hv,hg,hh,h1,h2,h3,h4⟩
 ·omega
 ·exact⟨g,cap,cur,hv,hg,hh⟩
theorem Oj(T:ZO)(n:Int)(on:Bool):∀l:List Nat,(l.flatMap (T.YX n on)).length≤2*l.length
 | []=>Zw _
 | p :: l=>by
  rw[List.flatMap_cons,UG,List.length_cons];have h1:=Oj T n on l;have h2:(T.YX n on p).length≤2:=by unfold ZO.YX;split;simp;split <;> simp
  omega
theorem set4{w:World}{b:Nat}{u0 u1 u2 u3 v0 v1 v2 v3:Value}(h0:w.cell? ⟨b,0,none⟩=some u0)(h1:w.cell? ⟨b,1,none⟩=some u1)(h2:w.cell? ⟨b,2,none⟩=some u2)(h3:w.cell? ⟨b,3,none⟩=some u3) :
  ((((w.setCell ⟨b,0,none⟩ v0).setCell ⟨b,1,none⟩ v1).setCell ⟨b,2,none⟩ v2).setCell ⟨b,3,none⟩ v3).cell? ⟨b,0,none⟩=some v0∧((((w.setCell ⟨b,0,none⟩ v0).setCell ⟨b,1,none⟩ v1).setCell ⟨b,2,none⟩ v2).setCell ⟨b,3,none⟩ v3).cell? ⟨b,1,none⟩=some v1 ∧
  ((((w.setCell ⟨b,0,none⟩ v0).setCell ⟨b,1,none⟩ v1).setCell ⟨b,2,none⟩ v2).setCell ⟨b,3,none⟩ v3).cell? ⟨b,2,none⟩=some v2∧((((w.setCell ⟨b,0,none⟩ v0).setCell ⟨b,1,none⟩ v1).setCell ⟨b,2,none⟩ v2).setCell ⟨b,3,none⟩ v3).cell? ⟨b,3,none⟩=some v3:=by
 obtain⟨k0,k1,k2⟩:=set3 (v0:=v0) (v1:=v1) (v2:=v2) h0 h1 h2;refine⟨(World.cell?_setCell_other _ _ _ _ Zi).trans k0,(World.cell?_setCell_other _ _ _ _ Zi).trans k1,(World.cell?_setCell_other _ _ _ _ Zi).trans k2,nZ (u:=u3) _ _ _ ?_⟩;rw[World.cell?_setCell_other _ _ _ _ Zi,World.cell?_setCell_other _ _ _ _ Zi,World.cell?_setCell_other _ _ _ _ Zi];exact h3
theorem a_{base:Nat}{e:TypeId}{size:Nat}{v:Value}{n:Nat}{xs:List Value}{w:World}(h:w.ownsRow base e size v n xs):∀k,v.ownBlock=some k→k<w.heap.size:=by
 intro k hk;obtain⟨_,h⟩:=h;rcases h with⟨rfl,_⟩|⟨g,cap,cur,rfl,hg,hh,_⟩
 ·cases hk
 ·have hk:some g=some k:=hk;cases hk;rcases Nat.lt_or_ge k w with h|h
  ·exact h
  ·rw[D_ h]at hh;cases hh
theorem pU{w w':World}{row:Option Nat}(hg:w.grownBy w' row){B g:Nat}(hr:∀k,row=some k→k<B)(hB:B≤g)(OT:g<w.heap.size)(j:Nat):w'.cell? ⟨g,j,none⟩=w.cell? ⟨g,j,none⟩:=
 World.cell?_of_block (w:=w) (hg.block g OT (fun e=>by have:=hr g e.symm;omega))
theorem U_{w:World}{base:Nat}{e:TypeId}{size:Nat}{n:Nat}{xs:List Value}{g cap:Nat}(h:w.ownsRow base e size (.slice (some ⟨g,0,none⟩) n cap) n xs)(hn:0<n){i:Nat}(u:Value):(w.setCell ⟨g,i,none⟩ u).ownsRow base e size (.slice (some ⟨g,0,none⟩) n cap) n (xs.set i u):=by
 exact Yx92
theorem Gw(on:Bool):∀(P:List (Wd×Value)) (k:Nat) (hk:k<P.length),(P.flatMap Zg).set (k*4+3) (.bool on)=(P.set k ({P[k].1 with ZN:=on},P[k].2)).flatMap Zg
 | [],k,hk=>by simp at hk
 | x :: P,0,_=>by simp[Zg]
 | x :: P,k+1,hk=>by
  have ih:=Gw on P k (by simpa using hk);rw[List.flatMap_cons,List.set_append_right _ _ (by show 4≤_;omega),List.set_cons_succ,List.flatMap_cons];have:(k+1)*4+3-(Zg x).length=k*4+3:=by show _-4=_;omega
  rw[this,ih];rfl
theorem nv(b:Nat)(T:ZO)(n:Int)(w:World)(hR:ZM w b T)(Vl:T.Small)(hs:0≤T.YV n) :
  Calls prog 101 (Jk (some ⟨b,0,none⟩) n true) w fun e w'=>(∃v,e = .returned v∧YD w' v (T.mute n true).1)∧ZM w' b (T.mute n true).2∧Fr w (· = b) w w':=by
 have hb:=hR.lt;obtain⟨m,hm,OW,-,-⟩:=XE hs;have OW:T.YV n=m:=OW;have CB:=Zh (fun(w1:World) (h:ZM w1 b T)=>VV b T n w1 h);rw[OW]at CB;have nT:Hid (T.mute n true=(((T.ZJ n true).Zp n).flatMap ((T.ZJ n true).YX n true),T.ZJ n true)):=rfl;obtain⟨pv,sv,uv,Yn,XF⟩:=hR.Vv;obtain⟨P,Tj,Sb,TP⟩:=XF.Yj;have Mj:m<P.length:=by rw[←Tj,Tx]at hm;exact hm
 have Us:=Vl.Yj;unfold small at Us;have hPl:P.length≤100000:=by rw[←Tj,Tx]at Us;exact Us
 have mg:∀x∈P,∃a n c,x.2 = .slice a n c:=fun x hx=>by obtain⟨a,c,h,-,-⟩:=TP x hx;exact⟨a,_,c,h⟩
 have Ao:Hid (∀u∈P.flatMap Zg,u.oneCell'=true):=Ph mg;have Am:=Zh (SL P)
 have HMT:Hid (T.ZJ n true={T with Yj:=(P.set m ({P[m].1 with ZN:=true},P[m].2)).map Prod.fst}):=by
  show _=_;unfold ZO.ZJ ZO.V6;rw[OW,Wl,List.map_set,Tj]
  congr 2
  rw[show T.Yj.getD m UI=P[m].1 by rw[←Tj,Ui Mj]]
 have P_:=Zh Sb;have Av:=Zh TP;have HR:=Zh hR;have eI:=Zh Tj;have LY:=Zh Vl;have tI:=Zh Mj;have c1:=cell_of Yn 1;have f1:=hR.YB 1;obtain⟨a,cap,rfl,OX,uz,-,-⟩:=id Sb;clear hR Vl hs OW Yn XF Sb TP Tj Us mg hm;go_enter func101,ntmps101;go_wp2_with (at_builtin;refine YO rfl (.const (.slice none 0 0)) (.tmp 15) 48 rfl w UX (.slice none 0 0) 0 [] rfl (TV _ _ _ _) (.slice a P.length cap) P.length (P.flatMap Zg) rfl P_.o Am.o Ao.o Zo Zo (Zw _) (fun v1 w2 oQ HG=>?_);have HQ:Hid (w2.ownsRow w 108 4 v1 P.length (P.flatMap Zg)):=kf;clear oQ;have Yp:Below w w w2:=(YI _ _).grown HG.o (Zw _) (fun k hk=>by cases hk);have c2:=(Yp.cell (p:=⟨b,1,none⟩) hb).trans c1;have f2:=(Yp.frozen (p:=⟨b,1,none⟩) hb).trans f1;obtain⟨g,cp,cur,hv,uD,Ij⟩:=O9 HQ.o Zo;subst hv)
 have Rt:=Zh ((HR.o.below Yp).G7 P eI.o (Row.Z4 HQ.o) (fun x hx=>(Av.o x hx).below Yp));have Ku:g≠b:=by omega
 have T9:=Zh (Wv HQ.o ((Fr.refl w2 (· = b) w2).setAt 1 (.slice (some ⟨g,0,none⟩) P.length cp)) (fun k hk=>by omega));have Ha:Hid (Fr w (· = b) w (w2.setCell ⟨b,1,none⟩ (.slice (some ⟨g,0,none⟩) P.length cp))):=(Fr.Z6 _ Yp).setAt _ _;have lL:(m:Int)<(P.length:Int):=P6.2 Mj;have qg:(0:Int)≤(m:Int):=n7 m;have k1:(w2.setCell ⟨b,1,none⟩ (.slice (some ⟨g,0,none⟩) P.length cp)).cell? ⟨b,1,none⟩=some (.slice (some ⟨g,0,none⟩) P.length cp):=nZ _ _ _ c2
 have gN:g<w2.heap.size:=by
  exact ki
 generalize lh:w2.setCell ⟨b,1,none⟩ (.slice (some ⟨g,0,none⟩) P.length cp)=W1 at *
 have P8:W1.heap.size=w2.heap.size:=by rw[←lh,size_setCell]
 have xE:=Zh lh
 have sD:W1.frozen? ⟨g,m*4+3,none⟩=false:=by
  have h:W1.heap[g]?=some (.cells cur 108):=by rw[←lh];simp[World.setCell,Array.getElem?_modify,Ku.symm,Ij]
  simp[World.frozen?,h]
 have uC:W1.heap[g]?=some (.cells cur 108):=by rw[←lh];simp[World.setCell,Array.getElem?_modify,Ku.symm,Ij]
 have uz:W1.cell? ⟨g,m*4+3,none⟩=some (.bool P[m].1.ZN):=by
  obtain⟨g',off',e,hc⟩:=Su (Row.Z4 T9.o) Zo;cases e;have:=(hc m P[m] (Ve Mj)).2.2.2
  rwa[PW]at this
 have Vk:Hid (∀w',Below W1 W1 w'→w'.cell? ⟨b,1,none⟩=some (.slice (some ⟨g,0,none⟩) P.length cp)∧w'.cell? ⟨g,m*4+3,none⟩=some (.bool P[m].1.ZN)∧w'.frozen? ⟨g,m*4+3,none⟩=false):=fun w' h=>
  ⟨(h.cell (p:=⟨b,1,none⟩) (by dsimp only;rw[P8];exact OB hb Yp.size)).trans k1,(h.cell (p:=⟨g,m*4+3,none⟩) T_).trans uz,(h.frozen (p:=⟨g,m*4+3,none⟩) T_).trans sD⟩
 have aH:w.heap.size≤W1.heap.size:=by have:=Yp.size;omega
 have EU:Hid (∀w',Below W1 W1 w'→ZM (w'.setCell ⟨g,m*4+3,none⟩ (.bool true)) b (T.ZJ n true)∧Fr w (· = b) w (w'.setCell ⟨g,m*4+3,none⟩ (.bool true))):=fun w' h=>by
  have hr:=Rt.o.below h;have hq:=Zv T9.o h;have hf:Fr w' (· = g) w' (w'.setCell ⟨g,m*4+3,none⟩ (.bool true)):=(Fr.refl _ _ _).setAt _ _
  have om:w'.heap[g]?=some (.cells cur 108):=by
   rw[h.block g Zo];exact uC
  have GX:∀e,108≠e→∀k c fr,k=g→w'.heap[k]?≠some (.cells c e fr):=by
   intro e he k c fr hk;subst hk;rw[om];exact Uo he
  have FB:=hr.lt;have qo:=U_ hq Zo (i:=m*4+3) (.bool true);rw[Gw true P m Mj]at qo;have az:=Row.Z4 qo;obtain⟨pv',Ac,iZ,Ks,qj,⟨ms',dP,GU,wM⟩,hu'⟩:=hr.Vv
  have mf:Ac = .slice (some ⟨g,0,none⟩) P.length cp:=by
   have h1:=cell_of Ks 1;rw[(Vk.o w' h).1]at h1;simpa using h1.symm
  subst mf;refine⟨⟨pv',.slice (some ⟨g,0,none⟩) P.length cp,iZ,by rw[hf.block b FB (fun e=>Ku e.symm)];exact Ks,?_⟩,(Ha.o.trans ((Fr.Z6 (· = b) h).mono aH (fun _ _ h=>h))).setCell (WO uD) _⟩;rw[HMT.o];refine⟨qj.fr hf (Zw _) (GX _ Zd),⟨P.set m ({P[m].1 with ZN:=true},P[m].2),rfl,by rw[List.length_set];exact az,?_⟩,hu'.fr hf (Zw _) (GX _ Zd)⟩;intro x hx;have lW:∀x∈P,Row (w'.setCell ⟨g,m*4+3,none⟩ (.bool true)) 66 x.2 x.1.ss.length (YN x.1.ss):=fun x hx=>((((Av.o x hx).below Yp).fr ((Fr.refl w2 (· = b) w2).setAt 1 (.slice (some ⟨g,0,none⟩) P.length cp)) (Zw _) ((HR.o.below Yp).EP Zd)).fr (Fr.Z6 Pz (by rw[xE.o];exact h)) (by rw[xE.o];exact Zw _) (fun _ _ _ h=>h.elim)).fr hf (Zw _) (GX _ Zd)
  rcases List.mem_or_eq_of_mem_set hx with hx|rfl
  ·exact lW x hx
  ·exact lW P[m] (OC Mj)
 have HSMM:Hid (T.ZJ n true).Small:=⟨LY.o.Zz,by unfold ZO.ZJ;dsimp only;rw[List.length_set];exact LY.o.Yj,LY.o.ZY⟩;have jb:Hid (∀w1,Below W1 W1 w1→Calls prog 49 (Qj (some ⟨b,0,none⟩) n) w1 fun e w'=>e = .returned (.int .i64 m)∧Below w1 w1 w'):=fun w1 h=>CB.o w1 (by have:=Rt.o.below h;exact this)
 have Nw:Below W1 W1 W1:=YI _ _;clear lh Ij sD HMT c1 f1 c2 f2;have HLLEN:((T.ZJ n true).Zp n).length≤8:=R9 _ n 8;have Hu:Hid (∀k,k<((T.ZJ n true).Zp n).length→(((T.ZJ n true).Zp n).take (k+1)).flatMap ((T.ZJ n true).YX n true)=(((T.ZJ n true).Zp n).take k).flatMap ((T.ZJ n true).YX n true)++(T.ZJ n true).YX n true (((T.ZJ n true).Zp n).getD k 0)):=fun k h=>Mv _ h
 have jF:Hid (∀k,k<((T.ZJ n true).Zp n).length→0≤(T.ZJ n true).Y6 (((T.ZJ n true).Zp n).getD k 0:Nat) n):=fun k h=>(I7.1 (Fv h)).2.2
 have jx:Hid (∀k,((((T.ZJ n true).Zp n).take k).flatMap ((T.ZJ n true).YX n true)).length≤16):=fun k=>by
  have h1:=Oj (T.ZJ n true) n true (((T.ZJ n true).Zp n).take k);rw[SY]at h1;omega
 have HFP:Hid (∀(p:Nat) (q:Nat) (hq:q<(T.ZJ n true).ZY.length),(T.ZJ n true).Y6 (p:Int) n=q→(T.ZJ n true).YX n true p=[⟨6,p,n,0,0⟩]):=fun p q hq e=>rfl
 have ML:=trivial;generalize T.ZJ n true=T1 at *
 go_upto_region 2 with fail
 go_cut [] (fun wx=>ZM wx b T1∧Fr w (· = b) w wx)
 case first=>
  go_region_with ((go_at_call 49;(with_reducible refine(jb.o _ B6).mono ?_);rintro e V2 ⟨rfl,Nq⟩;have lD:Below W1 W1 V2:=Heap.Below.call B6 (Zw _) Nq;obtain⟨v1,v2,v3⟩:=Vk.o _ lD))
  all_goals
   obtain⟨M4,FE⟩:=EU.o _ lD;generalize V2.setCell ⟨g,m*4+3,none⟩ (.bool true)=W3 at *
   go_wp2_with fail
   go_meet;exact⟨M4,FE⟩
 case rest=>
  obtain⟨M4,FE⟩:=hcut;obtain⟨W3,rfl⟩:∃W3:World,W3=wc:=⟨_,rfl⟩;have xC:=Zh M4;have jy:=Zh FE;have mh:=FE.size;have CH:=Zh (IP b T1 n W3 M4);clear M4 FE;generalize T1.Zp n=L at *
  generalize T1.YX n true=f at *
  go_wp2_with fail
  (with_reducible refine CH.o.mono ?_)
  rintro e w1 ⟨⟨lv,rfl,ZW⟩,YZ⟩;have Vc:=Zh ZW;have IH:Hid (Fr w (· = b) w w1):=jy.o.trans ((Fr.Z6 _ YZ).mono mh (fun _ _ h=>h));have xA:=Zh (xC.o.below YZ);obtain⟨la,uQ,rfl,-,-⟩:=id ZW;clear YZ ZW CH jy xC;go_wp2_with fail
  go_loopw [7,33] (fun v i w'=>∃k:Nat,k≤L.length∧i = .int .i64 k∧Fr w (· = b) w w'∧Row w' 3 (.slice la L.length uQ) L.length (ints L)∧ZM w' b T1∧w'.ownsRow w 158 5 v ((L.take k).flatMap f).length (((L.take k).flatMap f).flatMap Z7)) (fun _ i _=>L.length-(intOf i).toNat)
  case atStart=>exact⟨0,Zo,rfl,IH.o,Vc.o,xA.o,TV _ _ _ _⟩
  case round=>
   obtain⟨k,hk,rfl,Wm,ZW,UY,YG⟩:=hrel;clear IH xA Vc;have T8:=Zh Wm;have Vc:=Zh ZW;have Vm:=Zh UY;have Yk:=Zh YG;have Uk:=Wm.size;clear Wm YG UY;by_cases VM:k<L.length
   ·obtain⟨gl,offl,capl,e1,zZ,Yu⟩:=S7 ZW Zo;cases e1;have hc:=Yu k VM;have HS:=Zh (Hu.o k VM);have yC:=jF.o k VM;have Ak:=jx.o k;obtain⟨q,hq,L8,Hj,-⟩:=XE yC;have L8:T1.Y6 (L.getD k 0:Nat) n=q:=L8;have HP:=Zh (HFP.o (L.getD k 0) q hq L8);have CA:=Zh (fun w1 (h:Below wr wr w1)=>Wo b T1 (L.getD k 0:Nat) n w1 (Vm.o.below h));rw[L8]at CA;obtain⟨pv,sv,uv,Yn,XF⟩:=Vm.o.Vv;have UC:=XF.ZY;have hlenU:=UC.len;have zY:=cell_of Yn 2;obtain⟨ua,Ld,rfl,-,-⟩:=id UC;obtain⟨gu,S8,e2,NJ⟩:=Om UC Zo;subst e2;obtain⟨d0,d1,d2,d3⟩:=NJ q T1.ZY[q] (Ve hq)
    have gP:gu<wr.heap.size:=by
     rcases Nat.lt_or_ge gu wr with h|h
     ·exact h
     ·simp[World.cell?,D_ h]at d0
    have GY:T1.ZY[q].source=n:=by simp at Hj;exact Hj.2
    have htriv:=trivial;have FB:=Vm.o.lt;clear Yu ZW UC XF Yn NJ L8 Hj yC HFP ML;generalize T1.ZY[q]=x at *
    clear HSMM;generalize T1.ZY.length=NU at *
    generalize L.getD k 0=p at *
    generalize(L.take k).flatMap f=G at *
    obtain⟨x0,x1,x2,x3⟩:=x;dsimp only at d0 d1 d2 d3 GY HP;subst GY
    have ZB:Hid (∀w',Below wr wr w'→w'.cell? ⟨b,2,none⟩=some (.slice (some ⟨gu,S8,none⟩) NU Ld)∧w'.cell? ⟨gu,S8+q*4,none⟩=some (.int .i64 x0)∧w'.cell? ⟨gu,S8+q*4+1,none⟩=some (.int .i64 x1)∧w'.cell? ⟨gu,S8+q*4+2,none⟩=some (.int .i64 x2)∧w'.cell? ⟨gu,S8+q*4+3,none⟩=some (.bool x3)∧Below wr wr w'):=fun w' h=>
     ⟨(h.cell (p:=⟨b,2,none⟩) FB).trans zY,(h.cell (p:=⟨gu,S8+q*4,none⟩) gP).trans d0,(h.cell (p:=⟨gu,S8+q*4+1,none⟩) gP).trans d1,(h.cell (p:=⟨gu,S8+q*4+2,none⟩) gP).trans d2,(h.cell (p:=⟨gu,S8+q*4+3,none⟩) gP).trans d3,h⟩
    have Nw:Below wr wr wr:=YI _ _;go_upto_region 7 with fail
    go_cut [] (fun wx=>Below wr wr wx)
    case first=>
     go_region_held3 (fun w'=>w'.cell? ⟨b,2,none⟩=some (.slice (some ⟨gu,S8,none⟩) NU Ld)∧w'.cell? ⟨gu,S8+q*4,none⟩=some (.int .i64 x0)∧w'.cell? ⟨gu,S8+q*4+1,none⟩=some (.int .i64 x1)∧w'.cell? ⟨gu,S8+q*4+2,none⟩=some (.int .i64 x2)∧w'.cell? ⟨gu,S8+q*4+3,none⟩=some (.bool x3)∧Below wr wr w') (first|(exact ZB.o _ WQ)|(exact ZB.o _ (Below.drew WQ))|(exact ZB.o _ (Heap.Below.alloc' WQ (Zw _) _))|(exact ZB.o _ (Heap.Below.alloc' (Below.drew WQ) (Zw _) _))|(exact ZB.o _ (Below.setCell (Below.setCell (Below.setCell (Below.setCell WQ Zi _) Zi _) Zi _) Zi _))|(exact ZB.o _ (Below.setCell (Below.setCell (Below.setCell (Below.setCell (Below.drew WQ) Zi _) Zi _) Zi _) Zi _))|go_keep) (first|(go_at_call 51;go_split_ands;(with_reducible refine Calls.mono (CA.o _ WQ) ?_);rintro e w2 ⟨rfl,Zb⟩;have Yp:=Heap.Below.call WQ (Zw _) Zb;obtain⟨LG,I8⟩:=SP Zb;have TY:=Zb.size)|fail)
     all_goals
      clear Nw;obtain⟨-,-,-,-,-,Nz⟩:= ‹_∧_∧_∧_∧_∧Below wr wr _›
      (go_wp2_with fail;go_meet;exact Nz)
    case rest=>
     clear Nw;have Nz:=hcut;obtain⟨W4,rfl⟩:∃W4:World,W4=wc:=⟨_,rfl⟩;have HBZ:=Zh Nz;have HO0:=Zh (Zv Yk.o Nz);have GV:=Nz.size;clear Nz;go_wp2_with (at_builtin;refine YO rfl (.tmp 48) (.tmp 52) 98 rfl w Xy _ G.length (G.flatMap Z7) rfl (HO0.o.alloc _) _ 1 ([⟨6,p,x1,0,0⟩].flatMap Z7) rfl (Yw _ _ 1 _ ([⟨6,p,x1,0,0⟩].flatMap Z7) Zd Zi) rfl (X4 _) Zo Zo (PX Uk (PX GV Zi)) (fun v' w3 HO HG=>?_))
     go_roundw
     case rel=>
      have WX:=HBZ.o.alloc HBZ.o.size (.cells ([⟨6,p,x1,0,0⟩].flatMap Z7).toArray 158);have Sa:=Zv Yk.o WX;refine⟨k+1,Zo,Zn,?_,?_,?_,?_⟩
      ·exact(T8.o.trans ((Fr.Z6 _ WX).mono Uk (fun _ _ h=>h))).grown HG.o (PX Uk WX.size) (YL Yk.o)
      ·exact Row.grown (Vc.o.below WX) Sa HG.o Zd
      ·exact ZM.grown (Vm.o.below WX) Sa HG.o hb
      ·rw[HS.o,HP.o,UG,OD];exact HO.o
     case measure=>simp[intOf];omega
   ·exact cH
theorem rh(b:Nat)(T:ZO)(n:Int)(w:World)(hR:ZM w b T)(Vl:T.Small)(hs:0≤T.YV n)(S6:∀x∈(T.ZJ n false).ZY,x.source=n→0≤(T.ZJ n false).YV n∧0≤x.want∧x.want<((T.ZJ n false).V6 n).ss.length) :
  Calls prog 101 (Jk (some ⟨b,0,none⟩) n false) w fun e w'=>(∃v,e = .returned v∧YD w' v (T.mute n false).1)∧ZM w' b (T.mute n false).2∧Fr w (· = b) w w':=by
 have hb:=hR.lt;obtain⟨m,hm,OW,-,-⟩:=XE hs;have OW:T.YV n=m:=OW;have CB:=Zh (fun(w1:World) (h:ZM w1 b T)=>VV b T n w1 h);rw[OW]at CB;have nT:Hid (T.mute n false=(((T.ZJ n false).Zp n).flatMap ((T.ZJ n false).YX n false),T.ZJ n false)):=rfl;obtain⟨pv,sv,uv,Yn,XF⟩:=hR.Vv;obtain⟨P,Tj,Sb,TP⟩:=XF.Yj;have Mj:m<P.length:=by rw[←Tj,Tx]at hm;exact hm
 have Us:=Vl.Yj;unfold small at Us;have hPl:P.length≤100000:=by rw[←Tj,Tx]at Us;exact Us
 have mg:∀x∈P,∃a n c,x.2 = .slice a n c:=fun x hx=>by obtain⟨a,c,h,-,-⟩:=TP x hx;exact⟨a,_,c,h⟩
 have Ao:Hid (∀u∈P.flatMap Zg,u.oneCell'=true):=Ph mg;have Am:=Zh (SL P)
 have HMT:Hid (T.ZJ n false={T with Yj:=(P.set m ({P[m].1 with ZN:=false},P[m].2)).map Prod.fst}):=by
  show _=_;unfold ZO.ZJ ZO.V6;rw[OW,Wl,List.map_set,Tj]
  congr 2
  rw[show T.Yj.getD m UI=P[m].1 by rw[←Tj,Ui Mj]]
 have P_:=Zh Sb;have Av:=Zh TP;have HR:=Zh hR;have eI:=Zh Tj;have LY:=Zh Vl;have tI:=Zh Mj;have c1:=cell_of Yn 1;have f1:=hR.YB 1;obtain⟨a,cap,rfl,OX,uz,-,-⟩:=id Sb;clear hR Vl hs OW Yn XF Sb TP Tj Us mg hm;go_enter func101,ntmps101;go_wp2_with (at_builtin;refine YO rfl (.const (.slice none 0 0)) (.tmp 15) 48 rfl w UX (.slice none 0 0) 0 [] rfl (TV _ _ _ _) (.slice a P.length cap) P.length (P.flatMap Zg) rfl P_.o Am.o Ao.o Zo Zo (Zw _) (fun v1 w2 oQ HG=>?_);have HQ:Hid (w2.ownsRow w 108 4 v1 P.length (P.flatMap Zg)):=kf;clear oQ;have Yp:Below w w w2:=(YI _ _).grown HG.o (Zw _) (fun k hk=>by cases hk);have c2:=(Yp.cell (p:=⟨b,1,none⟩) hb).trans c1;have f2:=(Yp.frozen (p:=⟨b,1,none⟩) hb).trans f1;obtain⟨g,cp,cur,hv,uD,Ij⟩:=O9 HQ.o Zo;subst hv)
 have Rt:=Zh ((HR.o.below Yp).G7 P eI.o (Row.Z4 HQ.o) (fun x hx=>(Av.o x hx).below Yp));have Ku:g≠b:=by omega
 have T9:=Zh (Wv HQ.o ((Fr.refl w2 (· = b) w2).setAt 1 (.slice (some ⟨g,0,none⟩) P.length cp)) (fun k hk=>by omega));have Ha:Hid (Fr w (· = b) w (w2.setCell ⟨b,1,none⟩ (.slice (some ⟨g,0,none⟩) P.length cp))):=(Fr.Z6 _ Yp).setAt _ _;have lL:(m:Int)<(P.length:Int):=P6.2 Mj;have qg:(0:Int)≤(m:Int):=n7 m;have k1:(w2.setCell ⟨b,1,none⟩ (.slice (some ⟨g,0,none⟩) P.length cp)).cell? ⟨b,1,none⟩=some (.slice (some ⟨g,0,none⟩) P.length cp):=nZ _ _ _ c2
 have gN:g<w2.heap.size:=by
  exact ki
 generalize lh:w2.setCell ⟨b,1,none⟩ (.slice (some ⟨g,0,none⟩) P.length cp)=W1 at *
 have P8:W1.heap.size=w2.heap.size:=by rw[←lh,size_setCell]
 have xE:=Zh lh
 have sD:W1.frozen? ⟨g,m*4+3,none⟩=false:=by
  have h:W1.heap[g]?=some (.cells cur 108):=by rw[←lh];simp[World.setCell,Array.getElem?_modify,Ku.symm,Ij]
  simp[World.frozen?,h]
 have uC:W1.heap[g]?=some (.cells cur 108):=by rw[←lh];simp[World.setCell,Array.getElem?_modify,Ku.symm,Ij]
 have uz:W1.cell? ⟨g,m*4+3,none⟩=some (.bool P[m].1.ZN):=by
  obtain⟨g',off',e,hc⟩:=Su (Row.Z4 T9.o) Zo;cases e;have:=(hc m P[m] (Ve Mj)).2.2.2
  rwa[PW]at this
 have Vk:Hid (∀w',Below W1 W1 w'→w'.cell? ⟨b,1,none⟩=some (.slice (some ⟨g,0,none⟩) P.length cp)∧w'.cell? ⟨g,m*4+3,none⟩=some (.bool P[m].1.ZN)∧w'.frozen? ⟨g,m*4+3,none⟩=false):=fun w' h=>
  ⟨(h.cell (p:=⟨b,1,none⟩) (by dsimp only;rw[P8];exact OB hb Yp.size)).trans k1,(h.cell (p:=⟨g,m*4+3,none⟩) T_).trans uz,(h.frozen (p:=⟨g,m*4+3,none⟩) T_).trans sD⟩
 have aH:w.heap.size≤W1.heap.size:=by have:=Yp.size;omega
 have EU:Hid (∀w',Below W1 W1 w'→ZM (w'.setCell ⟨g,m*4+3,none⟩ (.bool false)) b (T.ZJ n false)∧Fr w (· = b) w (w'.setCell ⟨g,m*4+3,none⟩ (.bool false))):=fun w' h=>by
  have hr:=Rt.o.below h;have hq:=Zv T9.o h;have hf:Fr w' (· = g) w' (w'.setCell ⟨g,m*4+3,none⟩ (.bool false)):=(Fr.refl _ _ _).setAt _ _
  have om:w'.heap[g]?=some (.cells cur 108):=by
   rw[h.block g Zo];exact uC
  have GX:∀e,108≠e→∀k c fr,k=g→w'.heap[k]?≠some (.cells c e fr):=by
   intro e he k c fr hk;subst hk;rw[om];exact Uo he
  have FB:=hr.lt;have qo:=U_ hq Zo (i:=m*4+3) (.bool false);rw[Gw false P m Mj]at qo;have az:=Row.Z4 qo;obtain⟨pv',Ac,iZ,Ks,qj,⟨ms',dP,GU,wM⟩,hu'⟩:=hr.Vv
  have mf:Ac = .slice (some ⟨g,0,none⟩) P.length cp:=by
   have h1:=cell_of Ks 1;rw[(Vk.o w' h).1]at h1;simpa using h1.symm
  subst mf;refine⟨⟨pv',.slice (some ⟨g,0,none⟩) P.length cp,iZ,by rw[hf.block b FB (fun e=>Ku e.symm)];exact Ks,?_⟩,(Ha.o.trans ((Fr.Z6 (· = b) h).mono aH (fun _ _ h=>h))).setCell (WO uD) _⟩;rw[HMT.o];refine⟨qj.fr hf (Zw _) (GX _ Zd),⟨P.set m ({P[m].1 with ZN:=false},P[m].2),rfl,by rw[List.length_set];exact az,?_⟩,hu'.fr hf (Zw _) (GX _ Zd)⟩;intro x hx;have lW:∀x∈P,Row (w'.setCell ⟨g,m*4+3,none⟩ (.bool false)) 66 x.2 x.1.ss.length (YN x.1.ss):=fun x hx=>((((Av.o x hx).below Yp).fr ((Fr.refl w2 (· = b) w2).setAt 1 (.slice (some ⟨g,0,none⟩) P.length cp)) (Zw _) ((HR.o.below Yp).EP Zd)).fr (Fr.Z6 Pz (by rw[xE.o];exact h)) (by rw[xE.o];exact Zw _) (fun _ _ _ h=>h.elim)).fr hf (Zw _) (GX _ Zd)
  rcases List.mem_or_eq_of_mem_set hx with hx|rfl
  ·exact lW x hx
  ·exact lW P[m] (OC Mj)
 have HSMM:Hid (T.ZJ n false).Small:=⟨LY.o.Zz,by unfold ZO.ZJ;dsimp only;rw[List.length_set];exact LY.o.Yj,LY.o.ZY⟩;have jb:Hid (∀w1,Below W1 W1 w1→Calls prog 49 (Qj (some ⟨b,0,none⟩) n) w1 fun e w'=>e = .returned (.int .i64 m)∧Below w1 w1 w'):=fun w1 h=>CB.o w1 (by have:=Rt.o.below h;exact this)
 have Nw:Below W1 W1 W1:=YI _ _;clear lh Ij sD HMT c1 f1 c2 f2;have HLLEN:((T.ZJ n false).Zp n).length≤8:=R9 _ n 8;have Hu:Hid (∀k,k<((T.ZJ n false).Zp n).length→(((T.ZJ n false).Zp n).take (k+1)).flatMap ((T.ZJ n false).YX n false)=(((T.ZJ n false).Zp n).take k).flatMap ((T.ZJ n false).YX n false)++(T.ZJ n false).YX n false (((T.ZJ n false).Zp n).getD k 0)):=fun k h=>Mv _ h
 have jF:Hid (∀k,k<((T.ZJ n false).Zp n).length→0≤(T.ZJ n false).Y6 (((T.ZJ n false).Zp n).getD k 0:Nat) n):=fun k h=>(I7.1 (Fv h)).2.2
 have jx:Hid (∀k,((((T.ZJ n false).Zp n).take k).flatMap ((T.ZJ n false).YX n false)).length≤16):=fun k=>by
  have h1:=Oj (T.ZJ n false) n false (((T.ZJ n false).Zp n).take k);rw[SY]at h1;omega
 have HFP:Hid (∀(p:Nat) (q:Nat) (hq:q<(T.ZJ n false).ZY.length),(T.ZJ n false).Y6 (p:Int) n=q→(T.ZJ n false).YX n false p=⟨7,p,n,0,0⟩ :: (if(T.ZJ n false).ZY[q].ZV then[]else[(T.ZJ n false).ask (T.ZJ n false).ZY[q]])):=fun p q hq e=>by
  unfold ZO.YX ZO.Ol;rw[e,Wl,MR hq];rfl
 have ML:Hid (∀x∈(T.ZJ n false).ZY,x.source=n→0≤(T.ZJ n false).YV n∧0≤x.want∧x.want<((T.ZJ n false).V6 n).ss.length):=S6;generalize T.ZJ n false=T1 at *
 go_upto_region 2 with fail
 go_cut [] (fun wx=>ZM wx b T1∧Fr w (· = b) w wx)
 case first=>
  go_region_with ((go_at_call 49;(with_reducible refine(jb.o _ B6).mono ?_);rintro e V2 ⟨rfl,Nq⟩;have lD:Below W1 W1 V2:=Heap.Below.call B6 (Zw _) Nq;obtain⟨v1,v2,v3⟩:=Vk.o _ lD))
  all_goals
   obtain⟨M4,FE⟩:=EU.o _ lD;generalize V2.setCell ⟨g,m*4+3,none⟩ (.bool false)=W3 at *
   go_wp2_with fail
   go_meet;exact⟨M4,FE⟩
 case rest=>
  obtain⟨M4,FE⟩:=hcut;obtain⟨W3,rfl⟩:∃W3:World,W3=wc:=⟨_,rfl⟩;have xC:=Zh M4;have jy:=Zh FE;have mh:=FE.size;have CH:=Zh (IP b T1 n W3 M4);clear M4 FE;generalize T1.Zp n=L at *
  generalize T1.YX n false=f at *
  go_wp2_with fail
  (with_reducible refine CH.o.mono ?_)
  rintro e w1 ⟨⟨lv,rfl,ZW⟩,YZ⟩;have Vc:=Zh ZW;have IH:Hid (Fr w (· = b) w w1):=jy.o.trans ((Fr.Z6 _ YZ).mono mh (fun _ _ h=>h));have xA:=Zh (xC.o.below YZ);obtain⟨la,uQ,rfl,-,-⟩:=id ZW;clear YZ ZW CH jy xC;go_wp2_with fail
  go_loopw [7,33] (fun v i w'=>∃k:Nat,k≤L.length∧i = .int .i64 k∧Fr w (· = b) w w'∧Row w' 3 (.slice la L.length uQ) L.length (ints L)∧ZM w' b T1∧w'.ownsRow w 158 5 v ((L.take k).flatMap f).length (((L.take k).flatMap f).flatMap Z7)) (fun _ i _=>L.length-(intOf i).toNat)
  case atStart=>exact⟨0,Zo,rfl,IH.o,Vc.o,xA.o,TV _ _ _ _⟩
  case round=>
   obtain⟨k,hk,rfl,Wm,ZW,UY,YG⟩:=hrel;clear IH xA Vc;have T8:=Zh Wm;have Vc:=Zh ZW;have Vm:=Zh UY;have Yk:=Zh YG;have Uk:=Wm.size;clear Wm YG UY;by_cases VM:k<L.length
   ·obtain⟨gl,offl,capl,e1,zZ,Yu⟩:=S7 ZW Zo;cases e1;have hc:=Yu k VM;have HS:=Zh (Hu.o k VM);have yC:=jF.o k VM;have Ak:=jx.o k;obtain⟨q,hq,L8,Hj,-⟩:=XE yC;have L8:T1.Y6 (L.getD k 0:Nat) n=q:=L8;have HP:=Zh (HFP.o (L.getD k 0) q hq L8);have CA:=Zh (fun w1 (h:Below wr wr w1)=>Wo b T1 (L.getD k 0:Nat) n w1 (Vm.o.below h));rw[L8]at CA;obtain⟨pv,sv,uv,Yn,XF⟩:=Vm.o.Vv;have UC:=XF.ZY;have hlenU:=UC.len;have zY:=cell_of Yn 2;obtain⟨ua,Ld,rfl,-,-⟩:=id UC;obtain⟨gu,S8,e2,NJ⟩:=Om UC Zo;subst e2;obtain⟨d0,d1,d2,d3⟩:=NJ q T1.ZY[q] (Ve hq)
    have gP:gu<wr.heap.size:=by
     rcases Nat.lt_or_ge gu wr with h|h
     ·exact h
     ·simp[World.cell?,D_ h]at d0
    have GY:T1.ZY[q].source=n:=by simp at Hj;exact Hj.2
    have DX:=Zh (fun w1 (h:ZM w1 b T1)=>by
     have hh:=ML.o T1.ZY[q] (OC hq) GY;have h1:=GL b T1 T1.ZY[q] w1 h (by rw[GY];exact hh.1) (by rw[GY];exact hh.2);unfold VZ at h1
     exact h1)
    generalize T1.ask T1.ZY[q]=TA at *
    have FB:=Vm.o.lt;clear Yu ZW UC XF Yn NJ L8 Hj yC HFP ML;generalize T1.ZY[q]=x at *
    clear HSMM;generalize T1.ZY.length=NU at *
    generalize L.getD k 0=p at *
    generalize(L.take k).flatMap f=G at *
    obtain⟨x0,x1,x2,x3⟩:=x;dsimp only at d0 d1 d2 d3 GY HP DX;subst GY
    have ZB:Hid (∀w',Below wr wr w'→w'.cell? ⟨b,2,none⟩=some (.slice (some ⟨gu,S8,none⟩) NU Ld)∧w'.cell? ⟨gu,S8+q*4,none⟩=some (.int .i64 x0)∧w'.cell? ⟨gu,S8+q*4+1,none⟩=some (.int .i64 x1)∧w'.cell? ⟨gu,S8+q*4+2,none⟩=some (.int .i64 x2)∧w'.cell? ⟨gu,S8+q*4+3,none⟩=some (.bool x3)∧Below wr wr w'):=fun w' h=>
     ⟨(h.cell (p:=⟨b,2,none⟩) FB).trans zY,(h.cell (p:=⟨gu,S8+q*4,none⟩) gP).trans d0,(h.cell (p:=⟨gu,S8+q*4+1,none⟩) gP).trans d1,(h.cell (p:=⟨gu,S8+q*4+2,none⟩) gP).trans d2,(h.cell (p:=⟨gu,S8+q*4+3,none⟩) gP).trans d3,h⟩
    have Nw:Below wr wr wr:=YI _ _;go_upto_region 7 with fail
    go_cut [10] (fun iB wx=>∃g5:Nat,iB = .pointer (some ⟨g5,0,none⟩)∧(wx.cell? ⟨g5,0,none⟩=some (.int .i64 x0)∧wx.cell? ⟨g5,1,none⟩=some (.int .i64 x1)∧wx.cell? ⟨g5,2,none⟩=some (.int .i64 x2)∧wx.cell? ⟨g5,3,none⟩=some (.bool x3))∧wr.heap.size≤g5∧g5<wx.heap.size∧Below wr wr wx)
    case first=>
     go_region_held3 (fun w'=>w'.cell? ⟨b,2,none⟩=some (.slice (some ⟨gu,S8,none⟩) NU Ld)∧w'.cell? ⟨gu,S8+q*4,none⟩=some (.int .i64 x0)∧w'.cell? ⟨gu,S8+q*4+1,none⟩=some (.int .i64 x1)∧w'.cell? ⟨gu,S8+q*4+2,none⟩=some (.int .i64 x2)∧w'.cell? ⟨gu,S8+q*4+3,none⟩=some (.bool x3)∧Below wr wr w') (first|(exact ZB.o _ WQ)|(exact ZB.o _ (Below.drew WQ))|(exact ZB.o _ (Heap.Below.alloc' WQ (Zw _) _))|(exact ZB.o _ (Heap.Below.alloc' (Below.drew WQ) (Zw _) _))|(exact ZB.o _ (Below.setCell (Below.setCell (Below.setCell (Below.setCell WQ Zi _) Zi _) Zi _) Zi _))|(exact ZB.o _ (Below.setCell (Below.setCell (Below.setCell (Below.setCell (Below.drew WQ) Zi _) Zi _) Zi _) Zi _))|go_keep) (first|(go_at_call 51;go_split_ands;(with_reducible refine Calls.mono (CA.o _ WQ) ?_);rintro e w2 ⟨rfl,Zb⟩;have Yp:=Heap.Below.call WQ (Zw _) Zb;obtain⟨LG,I8⟩:=SP Zb;have TY:=Zb.size)|fail)
     all_goals
      clear Nw;obtain⟨-,-,-,-,-,Nz⟩:= ‹_∧_∧_∧_∧_∧Below wr wr _›
      (go_wp2_with fail;go_meet;first|exact⟨_,rfl,⟨cell_of (Z9 w2 _) 0,cell_of (Z9 w2 _) 1,cell_of (Z9 w2 _) 2,cell_of (Z9 w2 _) 3⟩,Yp.size,by simp,Nz⟩|exact⟨_,rfl,set4 ((LG _ _ Zi).trans (cell_of (Z9 _ _) 0)) ((LG _ _ Zi).trans (cell_of (Z9 _ _) 1)) ((LG _ _ Zi).trans (cell_of (Z9 _ _) 2)) ((LG _ _ Zi).trans (cell_of (Z9 _ _) 3)),Zw _,by simp at TY;simp;omega,Nz⟩)
    case rest=>
     clear Nw;obtain⟨g5,rfl,⟨e0,e1,e2,e3⟩,hg5,hg5b,Nz⟩:=hcut;obtain⟨W4,rfl⟩:∃W4:World,W4=wc:=⟨_,rfl⟩;have HBZ:=Zh Nz;have HO0:=Zh (Zv Yk.o Nz);have GV:=Nz.size;clear Nz;have G_:=Zh (HBZ.o.alloc HBZ.o.size (.cells ([⟨7,p,x1,0,0⟩].flatMap Z7).toArray 158));have nR:=Zh (fun(w3:World) (hg:(W4.alloc (.cells ([⟨7,p,x1,0,0⟩].flatMap Z7).toArray 158)).grownBy w3 _) (j:Nat)=>(pU hg (a_ Yk.o) hg5 Uf j).trans ((Z' W4 _).cell (p:=⟨g5,j,none⟩) hg5b));have HRG:=Zh (fun(w3:World) (hg:(W4.alloc (.cells ([⟨7,p,x1,0,0⟩].flatMap Z7).toArray 158)).grownBy w3 _)=>ZM.grown (Vm.o.below G_.o) (Zv Yk.o G_.o) hg hb);cases x3
     ·go_wp2_with (first|(at_builtin;refine YO rfl (.tmp 54) (.tmp 58) 98 rfl w Xy _ G.length (G.flatMap Z7) rfl (HO0.o.alloc _) _ 1 ([⟨7,p,x1,0,0⟩].flatMap Z7) rfl (Yw _ _ 1 _ ([⟨7,p,x1,0,0⟩].flatMap Z7) Zd Zi) rfl (X4 _) Zo Zo (PX Uk (PX GV Zi)) (fun v' w3 HO HG=>?_);have Ej:=HRG.o w3 HG.o;have e0':=(nR.o w3 HG.o 0).trans e0;have e1':=(nR.o w3 HG.o 1).trans e1;have e2':=(nR.o w3 HG.o 2).trans e2;have e3':=(nR.o w3 HG.o 3).trans e3;have mB:=HG.o.size)|(go_at_call 99;(with_reducible refine(DX.o _ Ej).mono ?_);rintro e w5 ⟨rfl,NI⟩;have P5:=Zh NI;have Ip:=NI.size;clear NI)|(at_builtin;refine YO rfl (.tmp 63) (.tmp 67) 98 rfl w Xy _ (G++[YF.mk 7 p x1 0 0]).length ((G++[YF.mk 7 p x1 0 0]).flatMap Z7) rfl ?b1 _ 1 ([TA].flatMap Z7) rfl ?b2 rfl (X4 _) ?b5 ?b6 ?b7 (fun v' w6 Hq xd=>?_)))
      case b1=>rw[UG,OD];exact(Zv HO.o P5.o).alloc _
      case b2=>exact Yw _ _ 1 _ ([TA].flatMap Z7) Zd rfl
      case b5=>rw[UG];simp;omega
      case b6=>rw[UG];simp;omega
      case b7=>simp at mB;simp;omega
      go_roundw
      case rel=>
       simp at mB;have gH:=P5.o.alloc P5.o.size (.cells ([TA].flatMap Z7).toArray 158);have dI:=(Zv HO.o gH);have g0:=T8.o.trans ((Fr.Z6 (· = b) G_.o).mono Uk (fun _ _ h=>h));have g1:=g0.grown HG.o Uf (YL Yk.o);have g2:=g1.trans ((Fr.Z6 (· = b) gH).mono Zo (fun _ _ h=>h));refine⟨k+1,Zo,Zn,?_,?_,?_,?_⟩
       ·exact g2.grown xd.o Uf (YL HO.o)
       ·exact Row.grown ((Row.grown (Vc.o.below G_.o) (Zv Yk.o G_.o) HG.o Zd).below gH) dI xd.o Zd
       ·exact ZM.grown ((HRG.o w3 HG.o).below gH) dI xd.o hb
       ·rw[HS.o,HP.o,UG,OD];have h6:=Hq.o;rw[OD,UG]at h6;simpa using h6
      case measure=>simp[intOf];omega
     ·go_wp2_with (at_builtin;refine YO rfl (.tmp 54) (.tmp 58) 98 rfl w Xy _ G.length (G.flatMap Z7) rfl (HO0.o.alloc _) _ 1 ([⟨7,p,x1,0,0⟩].flatMap Z7) rfl (Yw _ _ 1 _ ([⟨7,p,x1,0,0⟩].flatMap Z7) Zd Zi) rfl (X4 _) Zo Zo (PX Uk (PX GV Zi)) (fun v' w3 HO HG=>?_);have e3':=(nR.o w3 HG.o 3).trans e3)
      go_roundw
      case rel=>
       have Sa:=Zv Yk.o G_.o;refine⟨k+1,Zo,Zn,?_,?_,?_,?_⟩
       ·exact(T8.o.trans ((Fr.Z6 _ G_.o).mono Uk (fun _ _ h=>h))).grown HG.o (PX Uk G_.o.size) (YL Yk.o)
       ·exact Row.grown (Vc.o.below G_.o) Sa HG.o Zd
       ·exact HRG.o w3 HG.o
       ·rw[HS.o,HP.o,UG,OD];exact HO.o
      case measure=>simp[intOf];omega
   ·exact cH
end Go.Proofs.Rm
