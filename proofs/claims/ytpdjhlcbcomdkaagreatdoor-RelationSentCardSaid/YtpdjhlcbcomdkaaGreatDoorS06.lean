import Derived.Test.YtpdjhlcbcomdkaaGreatDoorS05
set_option linter.all false
set_option maxRecDepth 100000
set_option maxHeartbeats 16000000
open Go Go.Q Go.Qr Go.Proofs.Tryz Go.RowKit
namespace Go.Proofs.By
def OM(l:List U1):(l.flatMap Yr).length=l.length*2:=XH Yr 2 (fun _=>rfl) l
def OO(l:List U1):∀u∈l.flatMap Yr,u.oneCell'=true:=by
 intro u hu;obtain⟨x,_,hx⟩:=List.mem_flatMap.1 hu;exact Kv x u hx
def uS(b:Nat)(T:ZK)(p:Int)(w:World)(hR:ZI w b T)(Va:T.Small)(hp:1≤p)(hs:0≤T.Xw p) :
  Calls prog 97 (Qk (some ⟨b,0,none⟩) p) w fun e w'=>(∃v,e = .returned v∧Yx w' v (T.leave p).1)∧ZI w' b (T.leave p).2∧Fr w (· = b) w w':=by
 have hb:=hR.lt;have HL0:Hid (T.leave p=((ZK.ZH p T 8).1++(ZK.ZB p (ZK.ZH p T 8).2 8).1,(ZK.ZB p (ZK.ZH p T 8).2 8).2.NW p)):=rfl;have HR:=Zh hR;have LK:=Zh Va;have Hg:=Zh hs;clear hR Va hs;go_enter func97,ntmps97;go_wp2;go_loopw [5,6] (fun v i w'=>∃k:Nat,k≤8∧i = .int .i64 ((k:Int)+1)∧Fr w (· = b) w w'∧ZI w' b (ZK.ZH p T k).2∧w'.ownsRow w 158 5 v (ZK.ZH p T k).1.length ((ZK.ZH p T k).1.flatMap Z7)) (fun _ i _=>9-(intOf i).toNat)
 case atStart=>exact⟨0,Zo,rfl,Fr.refl _ _ _,HR.o,TH _ _ _ _⟩
 case round=>
  obtain⟨k,hk,rfl,Wb,UG,Yy⟩:=hrel;have TN:=Zh Wb;have Vb:=Zh UG;have Yd:=Zh Yy;have T8:=Wb.size;clear Wb UG Yy;by_cases Uu:k<8
  ·have HS:=Zh (KA p T k);have zV:=(R3 p T k).2.2.2;have CA:=Zh (Wd b (ZK.ZH p T k).2 p ((k:Int)+1) wr Vb.o);have hsm2:=(R3 p T k).2.2.1 LK.o;by_cases h0:0≤(ZK.ZH p T k).2.YZ p ((k:Int)+1)
   ·have HF:Hid (ZK.ZH p T (k+1)=((ZK.ZH p T k).1++[⟨2,p,(k:Int)+1,0,0⟩],(ZK.ZH p T k).2.Ww p ((k:Int)+1))):=by show _=_;rw[HS.o,ZU h0]
    have CE:Hid (∀w1,Below wr wr w1→Calls prog 100 (Qv (some ⟨b,0,none⟩) p ((k:Int)+1)) w1 fun e w'=>e = .returned (.agg (Qh 2 p ((k:Int)+1) 0 0))∧ZI w' b ((ZK.ZH p T k).2.Ww p ((k:Int)+1))∧Fr w1 (· = b) w1 w'):=
     fun w1 h=>Lh b (ZK.ZH p T k).2 p ((k:Int)+1) w1 (Vb.o.below h) hsm2 h0
    generalize(ZK.ZH p T k).2.YZ p ((k:Int)+1)=q at *;generalize ZK.ZH p T k=G at *;go_wp2_with (first|(go_at_call 51;(with_reducible refine CA.o.mono ?_);rintro e w1 ⟨rfl,YV⟩;have VA:=Zh YV;have Rn:=YV.size;clear YV)|(go_at_call 100;(with_reducible refine(CE.o _ VA.o).mono ?_);rintro e w2 ⟨rfl,OB,RD⟩;have wP:=Zh OB;have TG:=Zh RD;have pN:=RD.size;clear OB RD)|(at_builtin;refine YN rfl (.tmp 18) (.tmp 23) 98 rfl w Xt _ G.1.length (G.1.flatMap Z7) rfl ?a1 _ 1 ([⟨2,p,(k:Int)+1,0,0⟩].flatMap Z7) rfl ?a2 rfl ?a4 ?a5 ?a6 ?a7 (fun v' w3 HO HG=>?_)))
    case a1=>exact(V_ (Zp Yd.o VA.o) TG.o (fun k hk=>by omega)).alloc _
    case a2=>exact Yn _ _ 1 _ ([⟨2,p,(k:Int)+1,0,0⟩].flatMap Z7) Zd rfl
    case a4=>exact XT _
    case a5=>omega
    case a6=>omega
    case a7=>simp;omega
    go_roundw
    case rel=>
     have RF:=(V_ (Zp Yd.o VA.o) TG.o (fun k hk=>by omega)).alloc (.cells ([⟨2,p,(k:Int)+1,0,0⟩].flatMap Z7).toArray 158);have WO:=Z' w2 (.cells ([⟨2,p,(k:Int)+1,0,0⟩].flatMap Z7).toArray 158);refine⟨k+1,Zo,Zn,?_,?_,?_⟩
     ·have h2:=TN.o.trans ((Fr.Z8 (· = b) VA.o).mono Zo (fun _ _ h=>h));have h3:=h2.trans (TG.o.mono Zo (fun _ _ h=>h));exact(h3.alloc Zo _).grown HG.o TY (YG Yd.o)
     ·rw[HF.o];exact ZI.grown (wP.o.below WO) RF HG.o hb
     ·rw[HF.o];dsimp only;rw[UC,O7];exact HO.o
    case measure=>simp[intOf];omega
   ·have HF:Hid (ZK.ZH p T (k+1)=ZK.ZH p T k):=by show _=_;rw[HS.o,Z3 h0]
    have h0':decide (0≤(ZK.ZH p T k).2.YZ p ((k:Int)+1))=false:=WH h0;generalize(ZK.ZH p T k).2.YZ p ((k:Int)+1)=q at *;generalize ZK.ZH p T k=G at *;go_wp2_with (go_at_call 51;(with_reducible refine CA.o.mono ?_);rintro e w1 ⟨rfl,YV⟩)
    go_roundw
    case rel=>exact⟨k+1,Zo,Zn,TN.o.trans ((Fr.Z8 (· = b) YV).mono T8 (fun _ _ h=>h)),by rw[HF.o];exact Vb.o.below YV,by rw[HF.o];exact Zp Yd.o YV⟩
    case measure=>simp[intOf];omega
  ·obtain rfl:k=8:=by omega
   have hlf:=R3 p T 8;have zV:=hlf.2.2.2;have iQ:=Zh (hlf.2.2.1 LK.o);have HPE:=Zh hlf.2.1;have q9:Hid (∀k,ZK.ZB p (ZK.ZH p T 8).2 (k+1)=if(ZK.ZB p (ZK.ZH p T 8).2 k).2.owner ((k:Int)+1)=p then((ZK.ZB p (ZK.ZH p T 8).2 k).1++((ZK.ZB p (ZK.ZH p T 8).2 k).2.Yj ((k:Int)+1)).1,((ZK.ZB p (ZK.ZH p T 8).2 k).2.Yj ((k:Int)+1)).2)else ZK.ZB p (ZK.ZH p T 8).2 k):=fun k=>KE p _ k
   have HLF:Hid (∀k,(ZK.ZB p (ZK.ZH p T 8).2 k).2.Zu=(ZK.ZH p T 8).2.Zu∧(ZK.ZB p (ZK.ZH p T 8).2 k).2.Small∧(ZK.ZB p (ZK.ZH p T 8).2 k).1.length≤k*16):=fun k=>⟨(R4 p _ k).1,(R4 p _ k).2.1 iQ.o,(R4 p _ k).2.2⟩
   have sN:Hid (ZK.ZB p (ZK.ZH p T 8).2 0=([],(ZK.ZH p T 8).2)):=rfl;clear hlf;generalize ZK.ZH p T 8=X at *;obtain⟨wo,rfl⟩:∃wo:World,wo=wr:=⟨_,rfl⟩;go_wp2_with fail
   go_loopw [5,7] (fun v i w'=>∃k:Nat,k≤8∧i = .int .i64 ((k:Int)+1)∧Fr w (· = b) w w'∧ZI w' b (ZK.ZB p X.2 k).2∧w'.ownsRow w 158 5 v (X.1++(ZK.ZB p X.2 k).1).length ((X.1++(ZK.ZB p X.2 k).1).flatMap Z7)) (fun _ i _=>9-(intOf i).toNat)
   case atStart=>exact⟨0,Zo,rfl,TN.o,by rw[sN.o];exact Vb.o,by rw[sN.o,rC];exact Yd.o⟩
   case round=>
    obtain⟨k,hk,rfl,Wb,UG,Yy⟩:=hrel;clear TN Vb Yd sN T8;have TN:=Zh Wb;have Vb:=Zh UG;have Yd:=Zh Yy;have T8:=Wb.size;clear Wb UG Yy;by_cases Uu:k<8
    ·have HS:=Zh (q9.o k);have HGL2:=(HLF.o k).2.2;have HGN:=LO (ZK.ZB p X.2 k).2 ((k:Int)+1);have CO:=Zh (Oa b (ZK.ZB p X.2 k).2 ((k:Int)+1) wr Vb.o);by_cases ho:(ZK.ZB p X.2 k).2.owner ((k:Int)+1)=p
     ·have HF:Hid (ZK.ZB p X.2 (k+1)=((ZK.ZB p X.2 k).1++((ZK.ZB p X.2 k).2.Yj ((k:Int)+1)).1,((ZK.ZB p X.2 k).2.Yj ((k:Int)+1)).2)):=by show _=_;rw[HS.o,ZU ho]
      have CG:Hid (∀w1,Below wr wr w1→Calls prog 98 (Qk (some ⟨b,0,none⟩) ((k:Int)+1)) w1 fun e w'=>(∃v,e = .returned v∧Yx w' v ((ZK.ZB p X.2 k).2.Yj ((k:Int)+1)).1)∧ZI w' b ((ZK.ZB p X.2 k).2.Yj ((k:Int)+1)).2∧Fr w1 (· = b) w1 w'):=
       fun w1 h=>Pc b (ZK.ZB p X.2 k).2 ((k:Int)+1) w1 (Vb.o.below h) (HLF.o k).2.1 (qf Zo ho)
      rw[ho]at CO;clear ho;generalize(ZK.ZB p X.2 k).2.Yj ((k:Int)+1)=Y at *;generalize ZK.ZB p X.2 k=G at *;go_wp2_with (first|(go_at_call 75;(with_reducible refine CO.o.mono ?_);rintro e w1 ⟨rfl,YV⟩;have VA:=Zh YV;have Rn:=YV.size;clear YV)|(go_at_call 98;(with_reducible refine(CG.o _ VA.o).mono ?_);rintro e w2 ⟨⟨tv,rfl,Sz⟩,OB,RD⟩;have Ew:=Zh Sz;have wP:=Zh OB;have TG:=Zh RD;have pN:=RD.size;clear OB RD Sz)|(at_builtin;refine YN rfl (.tmp 34) (.tmp 37) 98 rfl w Xt _ (X.1++G.1).length ((X.1++G.1).flatMap Z7) rfl ?b1 _ Y.1.length (Y.1.flatMap Z7) rfl ?b2 ?b3 ?b4 ?b5 ?b6 ?b7 (fun v' w3 HO HG=>?_)))
      case b1=>exact V_ (Zp Yd.o VA.o) TG.o (fun k hk=>by omega)
      case b2=>exact Ew.o
      case b3=>exact Vo _
      case b4=>exact XT _
      case b5=>simp;omega
      case b6=>simp;omega
      case b7=>omega
      go_roundw
      case rel=>
       repeat apply Exists.intro
       refine⟨⟨k+1,Zo,Zn,?_,?_,?_⟩,rfl⟩
       ·have h2:=TN.o.trans ((Fr.Z8 (· = b) VA.o).mono Zo (fun _ _ h=>h));have h3:=h2.trans (TG.o.mono Zo (fun _ _ h=>h));exact h3.grown HG.o Zo (YG Yd.o)
       ·rw[HF.o];exact ZI.grown wP.o (V_ (Zp Yd.o VA.o) TG.o (fun k hk=>by omega)) HG.o hb
       ·rw[HF.o];dsimp only;rw[←bF,UC,O7];exact HO.o
      case measure=>simp[intOf];omega
     ·have HF:Hid (ZK.ZB p X.2 (k+1)=ZK.ZB p X.2 k):=by show _=_;rw[HS.o,Z3 ho]
      have rO:((ZK.ZB p X.2 k).2.owner ((k:Int)+1)==p)=false:=by rw[Wz];exact ho
      clear ho;generalize(ZK.ZB p X.2 k).2.owner ((k:Int)+1)=q at *;generalize ZK.ZB p X.2 k=G at *;go_wp2_with (go_at_call 75;(with_reducible refine CO.o.mono ?_);rintro e w1 ⟨rfl,YV⟩)
      go_roundw
      case rel=>
       repeat apply Exists.intro
       exact⟨⟨k+1,Zo,Zn,TN.o.trans ((Fr.Z8 (· = b) YV).mono T8 (fun _ _ h=>h)),by rw[HF.o];exact Vb.o.below YV,by rw[HF.o];exact Zp Yd.o YV⟩,rfl⟩
      case measure=>simp[intOf];omega
    ·obtain rfl:k=8:=by omega
     obtain⟨hpe,hsm3,-⟩:=HLF.o 8;rw[HPE.o]at hpe;clear q9 HLF HPE iQ;generalize ZK.ZB p X.2 8=G at *;have fQ:0≤G.2.Xw p:=by rw[FW,hpe,←FW];exact Hg.o
     obtain⟨m,hm,Ox,-,-⟩:=Xx fQ;have Ox:G.2.Xw p=m:=Ox;have cb:=R9 b G.2 p wr Vb.o;rw[Ox]at cb;have CB:=Zh cb;have HE:Hid (G.2.NW p={G.2 with Zu:=G.2.Zu.take m++G.2.Zu.drop (m+1)}):=by show _=_;unfold ZK.NW;rw[Ox,Wi,List.eraseIdx_eq_take_drop_succ]
     have Uf:=hsm3.Zu;unfold small at Uf;clear cb Ox fQ hsm3 hpe;go_wp2_with fail
     (with_reducible refine CB.o.mono ?_)
     rintro e V ⟨rfl,M_⟩;have M8:=Zh (Vb.o.below M_);have HFV:Hid (Fr w (· = b) w V):=TN.o.trans ((Fr.Z8 _ M_).mono T8 (fun _ _ h=>h));have HOV:=Zh (Zp Yd.o M_);have pO:w.heap.size≤V.heap.size:=PJ T8 M_.size;clear M_ CB;obtain⟨pv,sv,uv,Yh,Xy⟩:=M8.o.Vm;have RH:=Xy.Zu;obtain⟨a,cap,rfl,Oy,tS,-,-⟩:=id RH;obtain⟨a1,run1,yU,-⟩:=RT Tw a G.2.Zu.length cap m Zo;obtain⟨a2,mB,yV,-⟩:=Sk Tw a G.2.Zu.length cap (m+1) Zo Oy;rw[show(((m+1:Nat):Int))=(m:Int)+1 by omega]at mB
     have wT:Hid (∀w',Below V V w'→Row w' 103 (.slice a1 m cap) m ((G.2.Zu.take m).flatMap Yr)):=fun w' h=>by
      have:=yU w' _ Zo (OM _) (RH.below h)
      rwa[IP Yr 2 (fun _=>rfl)]at this
     have BF:Hid (∀w',Below V V w'→Row w' 103 (.slice a2 (G.2.Zu.length-(m+1)) (cap-(m+1))) (G.2.Zu.length-(m+1)) ((G.2.Zu.drop (m+1)).flatMap Yr)):=fun w' h=>by
      have:=yV w' _ (OM _) (RH.below h)
      rwa[IM Yr 2 (fun _=>rfl)]at this
     have EJ:Hid (((G.2.Zu.take m).flatMap Yr).length=m*2):=by show _=_;rw[OM,SC,Nat.min_eq_left Zo]
     have q9:Hid (((G.2.Zu.drop (m+1)).flatMap Yr).length=(G.2.Zu.length-(m+1))*2):=by show _=_;rw[OM,QG]
     have HL3:Hid ((G.2.Zu.take m++G.2.Zu.drop (m+1)).length=m+(G.2.Zu.length-(m+1))):=by show _=_;rw[UC,SC,QG,Nat.min_eq_left Zo]
     have HC:Hid (∀w',Below V V w'→w'.cell? ⟨b,0,none⟩=some (.slice a G.2.Zu.length cap)):=fun w' h=>(h.cell (p:=⟨b,0,none⟩) TQ).trans (ch Yh 0)
     have IV:=M8.o.Yv 0;have HFZ:Hid (∀w',Below V V w'→w'.frozen? ⟨b,0,none⟩=false):=fun w' h=>(h.frozen (p:=⟨b,0,none⟩) TQ).trans IV
     have pE:m+1≤G.2.Zu.length:=hm;have gZ:IntKind.i64.wrap ((m:Int)+1)=(m:Int)+1:=SZ _ Zo;have fA:=HC.o V (YE _ _);have Nh:Below V V V:=YE _ _;clear IV Xy Yh RH yU yV hm;generalize G.2.Zu.length=N at *;go_wp2_with fail
     go_region_law (first|(refine Y9 Zr (.const (.slice none 0 0)) (.tmp 48) 47 Zr V Tw (.slice none 0 0) 0 [] Zr (TH _ _ _ _) (.slice a1 m cap) m ((G.2.Zu.take m).flatMap Yr) Zr ?_ EJ.o (OO _) Zo Zo ?_ ?_;(exact wT.o _ BJ);(exact Below.size BJ);intro v1 w2 TP N7;have Yk:Below V V w2:=Below.grown BJ N7.o (Below.size BJ) (YG (TH V _ 103 2));have c2:=HC.o _ Yk)|(refine Y9 Zr (.tmp 49) (.tmp 56) 47 Zr V Tw v1 (0+m) ([]++(G.2.Zu.take m).flatMap Yr) Zr ?_ (.slice a2 (N-(m+1)) (cap-(m+1))) (N-(m+1)) ((G.2.Zu.drop (m+1)).flatMap Yr) Zr ?_ q9.o (OO _) Zo Zo ?_ ?_;(first|exact TP.o|exact WY TP.o);(exact BF.o _ BJ);(exact Below.size BJ);intro v2 w3 O5 JL;have V6:Below V V w3:=Below.grown BJ JL.o (Below.size BJ) (YG TP.o);have c3:=HC.o _ V6;have f3:=HFZ.o _ V6;obtain⟨va,vc,hv⟩:=Wl O5.o;subst hv))
     all_goals
      go_wp2;go_ret;have ZW:=Row.Z4 O5.o;rw[IC,←O7,PA]at ZW;have D7:ZI w3 b G.2:=M8.o.below V6;have MF:m+(N-(m+1))=(G.2.Zu.take m++G.2.Zu.drop (m+1)).length:=by rw[HL3.o]
      rw[MF]at ZW;have x9:=D7.zk ZW;rw[←MF]at x9;refine⟨⟨_,rfl,?_⟩,?_,?_⟩
      ·rw[HL0.o];exact(((Row.Z4 HOV.o).below V6).fr ((Fr.refl w3 (· = b) w3).setAt _ _) (Zq _) (D7.EA Zd))
      ·rw[HL0.o];dsimp only;rw[HE.o];exact x9
      ·exact(HFV.o.trans ((Fr.Z8 _ V6).mono pO (fun _ _ h=>h))).setAt _ _
def qo(b:Nat)(T:ZK)(p x:Int)(w:World)(hR:ZI w b T)(Va:T.Small) :
  Calls prog 104 (Jd (some ⟨b,0,none⟩) p x) w fun e w'=>(∃v,e = .returned (.tuple #[v,.int .i64 (T.YM p x).2])∧Yx w' v (T.YM p x).1.1)∧ZI w' b (T.YM p x).1.2∧Fr w (· = b) w w':=by
 have CO:=Zh (fun(w1:World) (h:Below w w w1)=>Kw b T x w1 (hR.below h));have CP:=Zh (fun(w1:World) (h:Below w w w1)=>R9 b T p w1 (hR.below h));have CW:=Zh (fun(w1:World) (h:Below w w w1)=>Oa b T (T.of x).1 w1 (hR.below h));have CE:=Zh (fun(w1:World) (h:Below w w w1) (hs:0≤T.YL (T.of x).1)=>Pc b T (T.of x).1 w1 (hR.below h) Va hs);have HG:Hid (T.YM p x=if !(T.of x).2.2||decide (T.Xw p<0)||decide (T.owner (T.of x).1≠p)then(([],T),8)else(T.Yj (T.of x).1,0)):=rfl;have HR:=Zh hR
 have DK:Hid ((T.of x).2.2=true→0≤T.YL (T.of x).1):=fun h=>by
  unfold ZK.of at h ⊢;by_cases hh:T.Rg x<0
  ·rw[ZU hh]at h;cases h
  ·rw[Z3 hh];obtain⟨k,hk,Ru,-,-⟩:=Xx (show 0≤T.Rg x by omega);have Ru:T.Rg x=k:=Ru;dsimp only;rw[Ru,Wi,JB,QQ,U' hk];exact⟨T.Yb[k],O6 hk,rfl⟩
 clear hR Va;generalize T.YM p x=gv at *;generalize T.of x=O at *;obtain⟨o1,o2,o3⟩:=O;dsimp only at *;generalize T.Xw p=pa at *;generalize T.owner o1=ow at *;cases o3
 ·have HF:Hid (gv=(([],T),8)):=by show _=_;rw[HG.o];rfl
  go_enter func104,ntmps104;go_wp2_with (go_at_call 74;(with_reducible refine(CO.o _ (YE _ _)).mono ?_);rintro e w1 ⟨rfl,YV⟩)
  go_ret2
  rw[HF.o];exact⟨⟨_,rfl,Row.nil _ _⟩,HR.o.below YV,Fr.Z8 _ YV⟩
 ·have hs:=DK.o rfl;by_cases h1:pa<0
  ·have HF:Hid (gv=(([],T),8)):=by show _=_;rw[HG.o,WV h1];rfl
   go_enter func104,ntmps104;go_wp2_with (first|(go_at_call 74;(with_reducible refine(CO.o _ (YE _ _)).mono ?_);rintro e w1 ⟨rfl,YV⟩)|(go_at_call 48;(with_reducible refine(CP.o _ YV).mono ?_);rintro e w2 ⟨rfl,Y7⟩))
   go_ret2
   rw[HF.o];have hb:=YV.trans (Y7.mono YV.size);exact⟨⟨_,rfl,Row.nil _ _⟩,HR.o.below hb,Fr.Z8 _ hb⟩
  have h1p:0≤pa:=by omega
  have h1d:decide (pa<0)=false:=WH h1;by_cases h2:ow=p
  ·subst h2;have HF:Hid (gv=(T.Yj o1,0)):=by show _=_;rw[HG.o,h1d];simp
   generalize T.Yj o1=Y at *;go_enter func104,ntmps104;go_wp2_with (first|(go_at_call 74;(with_reducible refine(CO.o _ (YE _ _)).mono ?_);rintro e w1 ⟨rfl,YV⟩)|(go_at_call 48;(with_reducible refine(CP.o _ YV).mono ?_);rintro e w2 ⟨rfl,Y7⟩;have D3:=YV.trans (Y7.mono YV.size))|(go_at_call 75;(with_reducible refine(CW.o _ D3).mono ?_);rintro e w3 ⟨rfl,WM⟩;have Cf:=D3.trans (WM.mono D3.size))|(go_at_call 98;(with_reducible refine(CE.o _ Cf hs).mono ?_);rintro e w4 ⟨⟨tv,rfl,Sz⟩,UG,Wb⟩))
   go_ret2
   rw[HF.o];exact⟨⟨_,rfl,Sz⟩,UG,(Fr.Z8 _ Cf).trans (Wb.mono Cf.size (fun _ _ h=>h))⟩
  ·have HF:Hid (gv=(([],T),8)):=by show _=_;rw[HG.o,h1d];simp[h2]
   have rO:(ow==p)=false:=by rw[Wz];exact h2
   have hbq2:(ow !=p)=true:=by rw[bne,rO];rfl
   go_enter func104,ntmps104;go_wp2_with (first|(go_at_call 74;(with_reducible refine(CO.o _ (YE _ _)).mono ?_);rintro e w1 ⟨rfl,YV⟩)|(go_at_call 48;(with_reducible refine(CP.o _ YV).mono ?_);rintro e w2 ⟨rfl,Y7⟩;have D3:=YV.trans (Y7.mono YV.size))|(go_at_call 75;(with_reducible refine(CW.o _ D3).mono ?_);rintro e w3 ⟨rfl,WM⟩;have Cf:=D3.trans (WM.mono D3.size)))
   go_ret2
   rw[HF.o];exact⟨⟨_,rfl,Row.nil _ _⟩,HR.o.below Cf,Fr.Z8 _ Cf⟩
def OL{w:World}{base:Nat}{e:TypeId}{size:Nat}{v:Value}{n:Nat}{xs:List Value}(h:w.ownsRow base e size v n xs)(hn:0<n):∃g cap cur,v = .slice (some ⟨g,0,none⟩) n cap∧base≤g∧w.heap[g]?=some (.cells cur e):=by
 obtain⟨_,h⟩:=h;rcases h with⟨_,h⟩|⟨g,cap,cur,hv,hg,hh,h1,h2,h3,h4⟩
 ·omega
 ·exact⟨g,cap,cur,hv,hg,hh⟩
def NY(T:ZK)(n:Int)(on:Bool):∀l:List Nat,(l.flatMap (T.YO n on)).length≤2*l.length
 | []=>Zq _
 | p :: l=>by
  rw[List.flatMap_cons,UC,List.length_cons];have h1:=NY T n on l;have h2:(T.YO n on p).length≤2:=by unfold ZK.YO;split;simp;split <;> simp
  omega
def set4{w:World}{b:Nat}{u0 u1 u2 u3 v0 v1 v2 v3:Value}(h0:w.cell? ⟨b,0,none⟩=some u0)(h1:w.cell? ⟨b,1,none⟩=some u1)(h2:w.cell? ⟨b,2,none⟩=some u2)(h3:w.cell? ⟨b,3,none⟩=some u3) :
  ((((w.setCell ⟨b,0,none⟩ v0).setCell ⟨b,1,none⟩ v1).setCell ⟨b,2,none⟩ v2).setCell ⟨b,3,none⟩ v3).cell? ⟨b,0,none⟩=some v0∧((((w.setCell ⟨b,0,none⟩ v0).setCell ⟨b,1,none⟩ v1).setCell ⟨b,2,none⟩ v2).setCell ⟨b,3,none⟩ v3).cell? ⟨b,1,none⟩=some v1 ∧
  ((((w.setCell ⟨b,0,none⟩ v0).setCell ⟨b,1,none⟩ v1).setCell ⟨b,2,none⟩ v2).setCell ⟨b,3,none⟩ v3).cell? ⟨b,2,none⟩=some v2∧((((w.setCell ⟨b,0,none⟩ v0).setCell ⟨b,1,none⟩ v1).setCell ⟨b,2,none⟩ v2).setCell ⟨b,3,none⟩ v3).cell? ⟨b,3,none⟩=some v3:=by
 obtain⟨k0,k1,k2⟩:=set3 (v0:=v0) (v1:=v1) (v2:=v2) h0 h1 h2;refine⟨(World.cell?_setCell_other _ _ _ _ Zi).trans k0,(World.cell?_setCell_other _ _ _ _ Zi).trans k1,(World.cell?_setCell_other _ _ _ _ Zi).trans k2,nu (u:=u3) _ _ _ ?_⟩;rw[World.cell?_setCell_other _ _ _ _ Zi,World.cell?_setCell_other _ _ _ _ Zi,World.cell?_setCell_other _ _ _ _ Zi];exact h3
def own_lt{base:Nat}{e:TypeId}{size:Nat}{v:Value}{n:Nat}{xs:List Value}{w:World}(h:w.ownsRow base e size v n xs):∀k,v.ownBlock=some k→k<w.heap.size:=by
 intro k hk;obtain⟨_,h⟩:=h;rcases h with⟨rfl,_⟩|⟨g,cap,cur,rfl,hg,hh,_⟩
 ·cases hk
 ·have hk:some g=some k:=hk;cases hk;rcases Nat.lt_or_ge k w with h|h
  ·exact h
  ·rw[DT h]at hh;cases hh
def pg{w w':World}{row:Option Nat}(hg:w.grownBy w' row){B g:Nat}(hr:∀k,row=some k→k<B)(hB:B≤g)(Ow:g<w.heap.size)(j:Nat):w'.cell? ⟨g,j,none⟩=w.cell? ⟨g,j,none⟩:=
 World.cell?_of_block (w:=w) (hg.block g Ow (fun e=>by have:=hr g e.symm;omega))
def bx{w:World}{base:Nat}{e:TypeId}{size:Nat}{n:Nat}{xs:List Value}{g cap:Nat}(h:w.ownsRow base e size (.slice (some ⟨g,0,none⟩) n cap) n xs)(hn:0<n){i:Nat}(u:Value):(w.setCell ⟨g,i,none⟩ u).ownsRow base e size (.slice (some ⟨g,0,none⟩) n cap) n (xs.set i u):=by
 exact Yx92
def Gj(on:Bool):∀(P:List (V4×Value)) (k:Nat) (hk:k<P.length),(P.flatMap Y_).set (k*4+3) (.bool on)=(P.set k ({P[k].1 with ZJ:=on},P[k].2)).flatMap Y_
 | [],k,hk=>by simp at hk
 | x :: P,0,_=>by simp[Y_]
 | x :: P,k+1,hk=>by
  have ih:=Gj on P k (by simpa using hk);rw[List.flatMap_cons,List.set_append_right _ _ (by show 4≤_;omega),List.set_cons_succ,List.flatMap_cons];have:(k+1)*4+3-(Y_ x).length=k*4+3:=by show _-4=_;omega
  rw[this,ih];rfl
def mA(b:Nat)(T:ZK)(n:Int)(w:World)(hR:ZI w b T)(Va:T.Small)(hs:0≤T.YL n) :
  Calls prog 101 (Jl (some ⟨b,0,none⟩) n true) w fun e w'=>(∃v,e = .returned v∧Yx w' v (T.mute n true).1)∧ZI w' b (T.mute n true).2∧Fr w (· = b) w w':=by
 have hb:=hR.lt;obtain⟨m,hm,Ox,-,-⟩:=Xx hs;have Ox:T.YL n=m:=Ox;have CB:=Zh (fun(w1:World) (h:ZI w1 b T)=>VJ b T n w1 h);rw[Ox]at CB;have mX:Hid (T.mute n true=(((T.ZF n true).Ze n).flatMap ((T.ZF n true).YO n true),T.ZF n true)):=rfl;obtain⟨pv,sv,uv,Yh,Xy⟩:=hR.Vm;obtain⟨P,S7,RH,Ty⟩:=Xy.Yb;have MG:m<P.length:=by rw[←S7,Te]at hm;exact hm
 have Uf:=Va.Yb;unfold small at Uf;have hPl:P.length≤100000:=by rw[←S7,Te]at Uf;exact Uf
 have kZ:∀x∈P,∃a n c,x.2 = .slice a n c:=fun x hx=>by obtain⟨a,c,h,-,-⟩:=Ty x hx;exact⟨a,_,c,h⟩
 have zX:Hid (∀u∈P.flatMap Y_,u.oneCell'=true):=OX kZ;have zW:=Zh (Sn P)
 have HMT:Hid (T.ZF n true={T with Yb:=(P.set m ({P[m].1 with ZJ:=true},P[m].2)).map Prod.fst}):=by
  show _=_;unfold ZK.ZF ZK.VU;rw[Ox,Wi,List.map_set,S7]
  congr 2
  rw[show T.Yb.getD m Uv=P[m].1 by rw[←S7,T5 MG]]
 have PI:=Zh RH;have Ab:=Zh Ty;have HR:=Zh hR;have dt:=Zh S7;have LK:=Zh Va;have vM:=Zh MG;have c1:=ch Yh 1;have f1:=hR.Yv 1;obtain⟨a,cap,rfl,Oy,tS,-,-⟩:=id RH;clear hR Va hs Ox Yh Xy RH Ty S7 Uf kZ hm;go_enter func101,ntmps101;go_wp2_with (at_builtin;refine YN rfl (.const (.slice none 0 0)) (.tmp 15) 48 rfl w UF (.slice none 0 0) 0 [] rfl (TH _ _ _ _) (.slice a P.length cap) P.length (P.flatMap Y_) rfl PI.o zW.o zX.o Zo Zo (Zq _) (fun v1 w2 nW HG=>?_);have HQ:Hid (w2.ownsRow w 108 4 v1 P.length (P.flatMap Y_)):=jr;clear nW;have Yk:Below w w w2:=(YE _ _).grown HG.o (Zq _) (fun k hk=>by cases hk);have c2:=(Yk.cell (p:=⟨b,1,none⟩) hb).trans c1;have f2:=(Yk.frozen (p:=⟨b,1,none⟩) hb).trans f1;obtain⟨g,cp,cur,hv,tW,Hz⟩:=OL HQ.o Zo;subst hv)
 have Rb:=Zh ((HR.o.below Yk).GQ P dt.o (Row.Z4 HQ.o) (fun x hx=>(Ab.o x hx).below Yk));have Kg:g≠b:=by omega
 have TP:=Zh (V_ HQ.o ((Fr.refl w2 (· = b) w2).setAt 1 (.slice (some ⟨g,0,none⟩) P.length cp)) (fun k hk=>by omega));have GX:Hid (Fr w (· = b) w (w2.setCell ⟨b,1,none⟩ (.slice (some ⟨g,0,none⟩) P.length cp))):=(Fr.Z8 _ Yk).setAt _ _;have nD:(m:Int)<(P.length:Int):=PM.2 MG;have pG:(0:Int)≤(m:Int):=oK m;have k1:(w2.setCell ⟨b,1,none⟩ (.slice (some ⟨g,0,none⟩) P.length cp)).cell? ⟨b,1,none⟩=some (.slice (some ⟨g,0,none⟩) P.length cp):=nu _ _ _ c2
 have fF:g<w2.heap.size:=by
  exact Yt8
 generalize ki:w2.setCell ⟨b,1,none⟩ (.slice (some ⟨g,0,none⟩) P.length cp)=W1 at *;have PF:W1.heap.size=w2.heap.size:=by rw[←ki,size_setCell]
 have wT:=Zh ki
 have rT:W1.frozen? ⟨g,m*4+3,none⟩=false:=by
  have h:W1.heap[g]?=some (.cells cur 108):=by rw[←ki];simp[World.setCell,Array.getElem?_modify,Kg.symm,Hz]
  simp[World.frozen?,h]
 have tV:W1.heap[g]?=some (.cells cur 108):=by rw[←ki];simp[World.setCell,Array.getElem?_modify,Kg.symm,Hz]
 have tS:W1.cell? ⟨g,m*4+3,none⟩=some (.bool P[m].1.ZJ):=by
  obtain⟨g',off',e,hc⟩:=R6 (Row.Z4 TP.o) Zo;cases e;have:=(hc m P[m] (U' MG)).2.2.2
  rwa[PA]at this
 have U_:Hid (∀w',Below W1 W1 w'→w'.cell? ⟨b,1,none⟩=some (.slice (some ⟨g,0,none⟩) P.length cp)∧w'.cell? ⟨g,m*4+3,none⟩=some (.bool P[m].1.ZJ)∧w'.frozen? ⟨g,m*4+3,none⟩=false):=fun w' h=>
  ⟨(h.cell (p:=⟨b,1,none⟩) (by dsimp only;rw[PF];exact Od hb Yk.size)).trans k1,(h.cell (p:=⟨g,m*4+3,none⟩) TQ).trans tS,(h.frozen (p:=⟨g,m*4+3,none⟩) TQ).trans rT⟩
 have hszW:w.heap.size≤W1.heap.size:=by have:=Yk.size;omega
 have EF:Hid (∀w',Below W1 W1 w'→ZI (w'.setCell ⟨g,m*4+3,none⟩ (.bool true)) b (T.ZF n true)∧Fr w (· = b) w (w'.setCell ⟨g,m*4+3,none⟩ (.bool true))):=fun w' h=>by
  have hr:=Rb.o.below h;have hq:=Zp TP.o h;have hf:Fr w' (· = g) w' (w'.setCell ⟨g,m*4+3,none⟩ (.bool true)):=(Fr.refl _ _ _).setAt _ _
  have nB:w'.heap[g]?=some (.cells cur 108):=by
   rw[h.block g Zo];exact tV
  have GH:∀e,108≠e→∀k c fr,k=g→w'.heap[k]?≠some (.cells c e fr):=by
   intro e he k c fr hk;subst hk;rw[nB];exact Ub he
  have Fs:=hr.lt;have pL:=bx hq Zo (i:=m*4+3) (.bool true);rw[Gj true P m MG]at pL;have hq3:=Row.Z4 pL;obtain⟨pv',zM,hH,Kf,pJ,⟨ms',cD,GG,vW⟩,hu'⟩:=hr.Vm
  have kY:zM = .slice (some ⟨g,0,none⟩) P.length cp:=by
   have h1:=ch Kf 1;rw[(U_.o w' h).1]at h1;simpa using h1.symm
  subst kY;refine⟨⟨pv',.slice (some ⟨g,0,none⟩) P.length cp,hH,by rw[hf.block b Fs (fun e=>Kg e.symm)];exact Kf,?_⟩,(GX.o.trans ((Fr.Z8 (· = b) h).mono hszW (fun _ _ h=>h))).setCell (WQ tW) _⟩;rw[HMT.o];refine⟨pJ.fr hf (Zq _) (GH _ Zd),⟨P.set m ({P[m].1 with ZJ:=true},P[m].2),rfl,by rw[List.length_set];exact hq3,?_⟩,hu'.fr hf (Zq _) (GH _ Zd)⟩;intro x hx;have kQ:∀x∈P,Row (w'.setCell ⟨g,m*4+3,none⟩ (.bool true)) 66 x.2 x.1.ss.length (bd x.1.ss):=fun x hx=>((((Ab.o x hx).below Yk).fr ((Fr.refl w2 (· = b) w2).setAt 1 (.slice (some ⟨g,0,none⟩) P.length cp)) (Zq _) ((HR.o.below Yk).EA Zd)).fr (Fr.Z8 Pj (by rw[wT.o];exact h)) (by rw[wT.o];exact Zq _) (fun _ _ _ h=>h.elim)).fr hf (Zq _) (GH _ Zd)
  rcases List.mem_or_eq_of_mem_set hx with hx|rfl
  ·exact kQ x hx
  ·exact kQ P[m] (O6 MG)
 have HSMM:Hid (T.ZF n true).Small:=⟨LK.o.Zu,by unfold ZK.ZF;dsimp only;rw[List.length_set];exact LK.o.Yb,LK.o.ZX⟩;have hJ:Hid (∀w1,Below W1 W1 w1→Calls prog 49 (Qk (some ⟨b,0,none⟩) n) w1 fun e w'=>e = .returned (.int .i64 m)∧Below w1 w1 w'):=fun w1 h=>CB.o w1 (by have:=Rb.o.below h;exact this)
 have Nh:Below W1 W1 W1:=YE _ _;clear ki Hz rT HMT c1 f1 c2 f2;have HLLEN:((T.ZF n true).Ze n).length≤8:=RA _ n 8;have Hj:Hid (∀k,k<((T.ZF n true).Ze n).length→(((T.ZF n true).Ze n).take (k+1)).flatMap ((T.ZF n true).YO n true)=(((T.ZF n true).Ze n).take k).flatMap ((T.ZF n true).YO n true)++(T.ZF n true).YO n true (((T.ZF n true).Ze n).getD k 0)):=fun k h=>Mh _ h
 have iJ:Hid (∀k,k<((T.ZF n true).Ze n).length→0≤(T.ZF n true).YZ (((T.ZF n true).Ze n).getD k 0:Nat) n):=fun k h=>(IU.1 (Fh h)).2.2
 have iC:Hid (∀k,((((T.ZF n true).Ze n).take k).flatMap ((T.ZF n true).YO n true)).length≤16):=fun k=>by
  have h1:=NY (T.ZF n true) n true (((T.ZF n true).Ze n).take k);rw[SC]at h1;omega
 have HFP:Hid (∀(p:Nat) (q:Nat) (hq:q<(T.ZF n true).ZX.length),(T.ZF n true).YZ (p:Int) n=q→(T.ZF n true).YO n true p=[⟨6,p,n,0,0⟩]):=fun p q hq e=>rfl
 have Mu:=trivial;generalize T.ZF n true=T1 at *;go_upto_region 2 with fail
 go_cut [] (fun wx=>ZI wx b T1∧Fr w (· = b) w wx)
 case first=>
  go_region_with ((go_at_call 49;(with_reducible refine(hJ.o _ BJ).mono ?_);rintro e V2 ⟨rfl,M_⟩;have kv:Below W1 W1 V2:=Below.call BJ (Zq _) M_;obtain⟨v1,v2,v3⟩:=U_.o _ kv))
  all_goals
   obtain⟨MI,Fv⟩:=EF.o _ kv;generalize V2.setCell ⟨g,m*4+3,none⟩ (.bool true)=W3 at *;go_wp2_with fail
   go_meet;exact⟨MI,Fv⟩
 case rest=>
  obtain⟨MI,Fv⟩:=hcut;obtain⟨W3,rfl⟩:∃W3:World,W3=wc:=⟨_,rfl⟩;have wQ:=Zh MI;have iD:=Zh Fv;have ld:=Fv.size;have CH:=Zh (Ix b T1 n W3 MI);clear MI Fv;generalize T1.Ze n=L at *;generalize T1.YO n true=f at *;go_wp2_with fail
  (with_reducible refine CH.o.mono ?_)
  rintro e w1 ⟨⟨lv,rfl,ZW⟩,YV⟩;have U0:=Zh ZW;have Ip:Hid (Fr w (· = b) w w1):=iD.o.trans ((Fr.Z8 _ YV).mono ld (fun _ _ h=>h));have wO:=Zh (wQ.o.below YV);obtain⟨la,uo,rfl,-,-⟩:=id ZW;clear YV ZW CH iD wQ;go_wp2_with fail
  go_loopw [7,33] (fun v i w'=>∃k:Nat,k≤L.length∧i = .int .i64 k∧Fr w (· = b) w w'∧Row w' 3 (.slice la L.length uo) L.length (ints L)∧ZI w' b T1∧w'.ownsRow w 158 5 v ((L.take k).flatMap f).length (((L.take k).flatMap f).flatMap Z7)) (fun _ i _=>L.length-(intOf i).toNat)
  case atStart=>exact⟨0,Zo,rfl,Ip.o,U0.o,wO.o,TH _ _ _ _⟩
  case round=>
   obtain⟨k,hk,rfl,Wb,ZW,UG,Yy⟩:=hrel;clear Ip wO U0;have TN:=Zh Wb;have U0:=Zh ZW;have Vb:=Zh UG;have Yd:=Zh Yy;have T8:=Wb.size;clear Wb Yy UG;by_cases Vz:k<L.length
   ·obtain⟨gl,offl,capl,e1,zK,Yp⟩:=SL ZW Zo;cases e1;have hc:=Yp k Vz;have HS:=Zh (Hj.o k Vz);have x7:=iJ.o k Vz;have zV:=iC.o k;obtain⟨q,hq,LU,G_,-⟩:=Xx x7;have LU:T1.YZ (L.getD k 0:Nat) n=q:=LU;have HP:=Zh (HFP.o (L.getD k 0) q hq LU);have CA:=Zh (fun w1 (h:Below wr wr w1)=>Wd b T1 (L.getD k 0:Nat) n w1 (Vb.o.below h));rw[LU]at CA;obtain⟨pv,sv,uv,Yh,Xy⟩:=Vb.o.Vm;have Un:=Xy.ZX;have hlenU:=Un.len;have zJ:=ch Yh 2;obtain⟨ua,KU,rfl,-,-⟩:=id Un;obtain⟨gu,SM,e2,O8⟩:=N1 Un Zo;subst e2;obtain⟨d0,d1,d2,d3⟩:=O8 q T1.ZX[q] (U' hq)
    have fG:gu<wr.heap.size:=by
     rcases Nat.lt_or_ge gu wr with h|h
     ·exact h
     ·simp[World.cell?,DT h]at d0
    have GJ:T1.ZX[q].source=n:=by simp at G_;exact G_.2
    have htriv:=trivial;have Fs:=Vb.o.lt;clear Yp ZW Un Xy Yh O8 LU G_ x7 HFP Mu;generalize T1.ZX[q]=x at *;clear HSMM;generalize T1.ZX.length=NU at *;generalize L.getD k 0=p at *;generalize(L.take k).flatMap f=G at *;obtain⟨x0,x1,x2,x3⟩:=x;dsimp only at d0 d1 d2 d3 GJ HP;subst GJ
    have Zv:Hid (∀w',Below wr wr w'→w'.cell? ⟨b,2,none⟩=some (.slice (some ⟨gu,SM,none⟩) NU KU)∧w'.cell? ⟨gu,SM+q*4,none⟩=some (.int .i64 x0)∧w'.cell? ⟨gu,SM+q*4+1,none⟩=some (.int .i64 x1)∧w'.cell? ⟨gu,SM+q*4+2,none⟩=some (.int .i64 x2)∧w'.cell? ⟨gu,SM+q*4+3,none⟩=some (.bool x3)∧Below wr wr w'):=fun w' h=>
     ⟨(h.cell (p:=⟨b,2,none⟩) Fs).trans zJ,(h.cell (p:=⟨gu,SM+q*4,none⟩) fG).trans d0,(h.cell (p:=⟨gu,SM+q*4+1,none⟩) fG).trans d1,(h.cell (p:=⟨gu,SM+q*4+2,none⟩) fG).trans d2,(h.cell (p:=⟨gu,SM+q*4+3,none⟩) fG).trans d3,h⟩
    have Nh:Below wr wr wr:=YE _ _;go_upto_region 7 with fail
    go_cut [] (fun wx=>Below wr wr wx)
    case first=>
     go_region_held3 (fun w'=>w'.cell? ⟨b,2,none⟩=some (.slice (some ⟨gu,SM,none⟩) NU KU)∧w'.cell? ⟨gu,SM+q*4,none⟩=some (.int .i64 x0)∧w'.cell? ⟨gu,SM+q*4+1,none⟩=some (.int .i64 x1)∧w'.cell? ⟨gu,SM+q*4+2,none⟩=some (.int .i64 x2)∧w'.cell? ⟨gu,SM+q*4+3,none⟩=some (.bool x3)∧Below wr wr w') (first|(exact Zv.o _ WE)|(exact Zv.o _ (Below.drew WE))|(exact Zv.o _ (Below.alloc' WE (Zq _) _))|(exact Zv.o _ (Below.alloc' (Below.drew WE) (Zq _) _))|(exact Zv.o _ (Below.setCell (Below.setCell (Below.setCell (Below.setCell WE Zi _) Zi _) Zi _) Zi _))|(exact Zv.o _ (Below.setCell (Below.setCell (Below.setCell (Below.setCell (Below.drew WE) Zi _) Zi _) Zi _) Zi _))|go_keep) (first|(go_at_call 51;go_split_ands;(with_reducible refine Calls.mono (CA.o _ WE) ?_);rintro e w2 ⟨rfl,Y7⟩;have Yk:=Below.call WE (Zq _) Y7;obtain⟨Ls,IV⟩:=Sv Y7;have TF:=Y7.size)|fail)
     all_goals
      clear Nh;obtain⟨-,-,-,-,-,Nj⟩:= ‹_∧_∧_∧_∧_∧Below wr wr _›
      (go_wp2_with fail;go_meet;exact Nj)
    case rest=>
     clear Nh;have Nj:=hcut;obtain⟨W4,rfl⟩:∃W4:World,W4=wc:=⟨_,rfl⟩;have HBZ:=Zh Nj;have HO0:=Zh (Zp Yd.o Nj);have Ki:=Nj.size;clear Nj;go_wp2_with (at_builtin;refine YN rfl (.tmp 48) (.tmp 52) 98 rfl w Xt _ G.length (G.flatMap Z7) rfl (HO0.o.alloc _) _ 1 ([⟨6,p,x1,0,0⟩].flatMap Z7) rfl (Yn _ _ 1 _ ([⟨6,p,x1,0,0⟩].flatMap Z7) Zd Zi) rfl (XT _) Zo Zo (PJ T8 (PJ Ki Zi)) (fun v' w3 HO HG=>?_))
     go_roundw
     case rel=>
      have WO:=HBZ.o.alloc HBZ.o.size (.cells ([⟨6,p,x1,0,0⟩].flatMap Z7).toArray 158);have RF:=Zp Yd.o WO;refine⟨k+1,Zo,Zn,?_,?_,?_,?_⟩
      ·exact(TN.o.trans ((Fr.Z8 _ WO).mono T8 (fun _ _ h=>h))).grown HG.o (PJ T8 WO.size) (YG Yd.o)
      ·exact Row.grown (U0.o.below WO) RF HG.o Zd
      ·exact ZI.grown (Vb.o.below WO) RF HG.o hb
      ·rw[HS.o,HP.o,UC,O7];exact HO.o
     case measure=>simp[intOf];omega
   ·exact bB
def qC(b:Nat)(T:ZK)(n:Int)(w:World)(hR:ZI w b T)(Va:T.Small)(hs:0≤T.YL n)(SK:∀x∈(T.ZF n false).ZX,x.source=n→0≤(T.ZF n false).YL n∧0≤x.want∧x.want<((T.ZF n false).VU n).ss.length) :
  Calls prog 101 (Jl (some ⟨b,0,none⟩) n false) w fun e w'=>(∃v,e = .returned v∧Yx w' v (T.mute n false).1)∧ZI w' b (T.mute n false).2∧Fr w (· = b) w w':=by
 have hb:=hR.lt;obtain⟨m,hm,Ox,-,-⟩:=Xx hs;have Ox:T.YL n=m:=Ox;have CB:=Zh (fun(w1:World) (h:ZI w1 b T)=>VJ b T n w1 h);rw[Ox]at CB;have mX:Hid (T.mute n false=(((T.ZF n false).Ze n).flatMap ((T.ZF n false).YO n false),T.ZF n false)):=rfl;obtain⟨pv,sv,uv,Yh,Xy⟩:=hR.Vm;obtain⟨P,S7,RH,Ty⟩:=Xy.Yb;have MG:m<P.length:=by rw[←S7,Te]at hm;exact hm
 have Uf:=Va.Yb;unfold small at Uf;have hPl:P.length≤100000:=by rw[←S7,Te]at Uf;exact Uf
 have kZ:∀x∈P,∃a n c,x.2 = .slice a n c:=fun x hx=>by obtain⟨a,c,h,-,-⟩:=Ty x hx;exact⟨a,_,c,h⟩
 have zX:Hid (∀u∈P.flatMap Y_,u.oneCell'=true):=OX kZ;have zW:=Zh (Sn P)
 have HMT:Hid (T.ZF n false={T with Yb:=(P.set m ({P[m].1 with ZJ:=false},P[m].2)).map Prod.fst}):=by
  show _=_;unfold ZK.ZF ZK.VU;rw[Ox,Wi,List.map_set,S7]
  congr 2
  rw[show T.Yb.getD m Uv=P[m].1 by rw[←S7,T5 MG]]
 have PI:=Zh RH;have Ab:=Zh Ty;have HR:=Zh hR;have dt:=Zh S7;have LK:=Zh Va;have vM:=Zh MG;have c1:=ch Yh 1;have f1:=hR.Yv 1;obtain⟨a,cap,rfl,Oy,tS,-,-⟩:=id RH;clear hR Va hs Ox Yh Xy RH Ty S7 Uf kZ hm;go_enter func101,ntmps101;go_wp2_with (at_builtin;refine YN rfl (.const (.slice none 0 0)) (.tmp 15) 48 rfl w UF (.slice none 0 0) 0 [] rfl (TH _ _ _ _) (.slice a P.length cap) P.length (P.flatMap Y_) rfl PI.o zW.o zX.o Zo Zo (Zq _) (fun v1 w2 nW HG=>?_);have HQ:Hid (w2.ownsRow w 108 4 v1 P.length (P.flatMap Y_)):=jr;clear nW;have Yk:Below w w w2:=(YE _ _).grown HG.o (Zq _) (fun k hk=>by cases hk);have c2:=(Yk.cell (p:=⟨b,1,none⟩) hb).trans c1;have f2:=(Yk.frozen (p:=⟨b,1,none⟩) hb).trans f1;obtain⟨g,cp,cur,hv,tW,Hz⟩:=OL HQ.o Zo;subst hv)
 have Rb:=Zh ((HR.o.below Yk).GQ P dt.o (Row.Z4 HQ.o) (fun x hx=>(Ab.o x hx).below Yk));have Kg:g≠b:=by omega
 have TP:=Zh (V_ HQ.o ((Fr.refl w2 (· = b) w2).setAt 1 (.slice (some ⟨g,0,none⟩) P.length cp)) (fun k hk=>by omega));have GX:Hid (Fr w (· = b) w (w2.setCell ⟨b,1,none⟩ (.slice (some ⟨g,0,none⟩) P.length cp))):=(Fr.Z8 _ Yk).setAt _ _;have nD:(m:Int)<(P.length:Int):=PM.2 MG;have pG:(0:Int)≤(m:Int):=oK m;have k1:(w2.setCell ⟨b,1,none⟩ (.slice (some ⟨g,0,none⟩) P.length cp)).cell? ⟨b,1,none⟩=some (.slice (some ⟨g,0,none⟩) P.length cp):=nu _ _ _ c2
 have fF:g<w2.heap.size:=by
  exact Yt8
 generalize ki:w2.setCell ⟨b,1,none⟩ (.slice (some ⟨g,0,none⟩) P.length cp)=W1 at *;have PF:W1.heap.size=w2.heap.size:=by rw[←ki,size_setCell]
 have wT:=Zh ki
 have rT:W1.frozen? ⟨g,m*4+3,none⟩=false:=by
  have h:W1.heap[g]?=some (.cells cur 108):=by rw[←ki];simp[World.setCell,Array.getElem?_modify,Kg.symm,Hz]
  simp[World.frozen?,h]
 have tV:W1.heap[g]?=some (.cells cur 108):=by rw[←ki];simp[World.setCell,Array.getElem?_modify,Kg.symm,Hz]
 have tS:W1.cell? ⟨g,m*4+3,none⟩=some (.bool P[m].1.ZJ):=by
  obtain⟨g',off',e,hc⟩:=R6 (Row.Z4 TP.o) Zo;cases e;have:=(hc m P[m] (U' MG)).2.2.2
  rwa[PA]at this
 have U_:Hid (∀w',Below W1 W1 w'→w'.cell? ⟨b,1,none⟩=some (.slice (some ⟨g,0,none⟩) P.length cp)∧w'.cell? ⟨g,m*4+3,none⟩=some (.bool P[m].1.ZJ)∧w'.frozen? ⟨g,m*4+3,none⟩=false):=fun w' h=>
  ⟨(h.cell (p:=⟨b,1,none⟩) (by dsimp only;rw[PF];exact Od hb Yk.size)).trans k1,(h.cell (p:=⟨g,m*4+3,none⟩) TQ).trans tS,(h.frozen (p:=⟨g,m*4+3,none⟩) TQ).trans rT⟩
 have hszW:w.heap.size≤W1.heap.size:=by have:=Yk.size;omega
 have EF:Hid (∀w',Below W1 W1 w'→ZI (w'.setCell ⟨g,m*4+3,none⟩ (.bool false)) b (T.ZF n false)∧Fr w (· = b) w (w'.setCell ⟨g,m*4+3,none⟩ (.bool false))):=fun w' h=>by
  have hr:=Rb.o.below h;have hq:=Zp TP.o h;have hf:Fr w' (· = g) w' (w'.setCell ⟨g,m*4+3,none⟩ (.bool false)):=(Fr.refl _ _ _).setAt _ _
  have nB:w'.heap[g]?=some (.cells cur 108):=by
   rw[h.block g Zo];exact tV
  have GH:∀e,108≠e→∀k c fr,k=g→w'.heap[k]?≠some (.cells c e fr):=by
   intro e he k c fr hk;subst hk;rw[nB];exact Ub he
  have Fs:=hr.lt;have pL:=bx hq Zo (i:=m*4+3) (.bool false);rw[Gj false P m MG]at pL;have hq3:=Row.Z4 pL;obtain⟨pv',zM,hH,Kf,pJ,⟨ms',cD,GG,vW⟩,hu'⟩:=hr.Vm
  have kY:zM = .slice (some ⟨g,0,none⟩) P.length cp:=by
   have h1:=ch Kf 1;rw[(U_.o w' h).1]at h1;simpa using h1.symm
  subst kY;refine⟨⟨pv',.slice (some ⟨g,0,none⟩) P.length cp,hH,by rw[hf.block b Fs (fun e=>Kg e.symm)];exact Kf,?_⟩,(GX.o.trans ((Fr.Z8 (· = b) h).mono hszW (fun _ _ h=>h))).setCell (WQ tW) _⟩;rw[HMT.o];refine⟨pJ.fr hf (Zq _) (GH _ Zd),⟨P.set m ({P[m].1 with ZJ:=false},P[m].2),rfl,by rw[List.length_set];exact hq3,?_⟩,hu'.fr hf (Zq _) (GH _ Zd)⟩;intro x hx;have kQ:∀x∈P,Row (w'.setCell ⟨g,m*4+3,none⟩ (.bool false)) 66 x.2 x.1.ss.length (bd x.1.ss):=fun x hx=>((((Ab.o x hx).below Yk).fr ((Fr.refl w2 (· = b) w2).setAt 1 (.slice (some ⟨g,0,none⟩) P.length cp)) (Zq _) ((HR.o.below Yk).EA Zd)).fr (Fr.Z8 Pj (by rw[wT.o];exact h)) (by rw[wT.o];exact Zq _) (fun _ _ _ h=>h.elim)).fr hf (Zq _) (GH _ Zd)
  rcases List.mem_or_eq_of_mem_set hx with hx|rfl
  ·exact kQ x hx
  ·exact kQ P[m] (O6 MG)
 have HSMM:Hid (T.ZF n false).Small:=⟨LK.o.Zu,by unfold ZK.ZF;dsimp only;rw[List.length_set];exact LK.o.Yb,LK.o.ZX⟩;have hJ:Hid (∀w1,Below W1 W1 w1→Calls prog 49 (Qk (some ⟨b,0,none⟩) n) w1 fun e w'=>e = .returned (.int .i64 m)∧Below w1 w1 w'):=fun w1 h=>CB.o w1 (by have:=Rb.o.below h;exact this)
 have Nh:Below W1 W1 W1:=YE _ _;clear ki Hz rT HMT c1 f1 c2 f2;have HLLEN:((T.ZF n false).Ze n).length≤8:=RA _ n 8;have Hj:Hid (∀k,k<((T.ZF n false).Ze n).length→(((T.ZF n false).Ze n).take (k+1)).flatMap ((T.ZF n false).YO n false)=(((T.ZF n false).Ze n).take k).flatMap ((T.ZF n false).YO n false)++(T.ZF n false).YO n false (((T.ZF n false).Ze n).getD k 0)):=fun k h=>Mh _ h
 have iJ:Hid (∀k,k<((T.ZF n false).Ze n).length→0≤(T.ZF n false).YZ (((T.ZF n false).Ze n).getD k 0:Nat) n):=fun k h=>(IU.1 (Fh h)).2.2
 have iC:Hid (∀k,((((T.ZF n false).Ze n).take k).flatMap ((T.ZF n false).YO n false)).length≤16):=fun k=>by
  have h1:=NY (T.ZF n false) n false (((T.ZF n false).Ze n).take k);rw[SC]at h1;omega
 have HFP:Hid (∀(p:Nat) (q:Nat) (hq:q<(T.ZF n false).ZX.length),(T.ZF n false).YZ (p:Int) n=q→(T.ZF n false).YO n false p=⟨7,p,n,0,0⟩ :: (if(T.ZF n false).ZX[q].ZV then[]else[(T.ZF n false).ask (T.ZF n false).ZX[q]])):=fun p q hq e=>by
  unfold ZK.YO ZK.N0;rw[e,Wi,MA hq];rfl
 have Mu:Hid (∀x∈(T.ZF n false).ZX,x.source=n→0≤(T.ZF n false).YL n∧0≤x.want∧x.want<((T.ZF n false).VU n).ss.length):=SK;generalize T.ZF n false=T1 at *;go_upto_region 2 with fail
 go_cut [] (fun wx=>ZI wx b T1∧Fr w (· = b) w wx)
 case first=>
  go_region_with ((go_at_call 49;(with_reducible refine(hJ.o _ BJ).mono ?_);rintro e V2 ⟨rfl,M_⟩;have kv:Below W1 W1 V2:=Below.call BJ (Zq _) M_;obtain⟨v1,v2,v3⟩:=U_.o _ kv))
  all_goals
   obtain⟨MI,Fv⟩:=EF.o _ kv;generalize V2.setCell ⟨g,m*4+3,none⟩ (.bool false)=W3 at *;go_wp2_with fail
   go_meet;exact⟨MI,Fv⟩
 case rest=>
  obtain⟨MI,Fv⟩:=hcut;obtain⟨W3,rfl⟩:∃W3:World,W3=wc:=⟨_,rfl⟩;have wQ:=Zh MI;have iD:=Zh Fv;have ld:=Fv.size;have CH:=Zh (Ix b T1 n W3 MI);clear MI Fv;generalize T1.Ze n=L at *;generalize T1.YO n false=f at *;go_wp2_with fail
  (with_reducible refine CH.o.mono ?_)
  rintro e w1 ⟨⟨lv,rfl,ZW⟩,YV⟩;have U0:=Zh ZW;have Ip:Hid (Fr w (· = b) w w1):=iD.o.trans ((Fr.Z8 _ YV).mono ld (fun _ _ h=>h));have wO:=Zh (wQ.o.below YV);obtain⟨la,uo,rfl,-,-⟩:=id ZW;clear YV ZW CH iD wQ;go_wp2_with fail
  go_loopw [7,33] (fun v i w'=>∃k:Nat,k≤L.length∧i = .int .i64 k∧Fr w (· = b) w w'∧Row w' 3 (.slice la L.length uo) L.length (ints L)∧ZI w' b T1∧w'.ownsRow w 158 5 v ((L.take k).flatMap f).length (((L.take k).flatMap f).flatMap Z7)) (fun _ i _=>L.length-(intOf i).toNat)
  case atStart=>exact⟨0,Zo,rfl,Ip.o,U0.o,wO.o,TH _ _ _ _⟩
  case round=>
   obtain⟨k,hk,rfl,Wb,ZW,UG,Yy⟩:=hrel;clear Ip wO U0;have TN:=Zh Wb;have U0:=Zh ZW;have Vb:=Zh UG;have Yd:=Zh Yy;have T8:=Wb.size;clear Wb Yy UG;by_cases Vz:k<L.length
   ·obtain⟨gl,offl,capl,e1,zK,Yp⟩:=SL ZW Zo;cases e1;have hc:=Yp k Vz;have HS:=Zh (Hj.o k Vz);have x7:=iJ.o k Vz;have zV:=iC.o k;obtain⟨q,hq,LU,G_,-⟩:=Xx x7;have LU:T1.YZ (L.getD k 0:Nat) n=q:=LU;have HP:=Zh (HFP.o (L.getD k 0) q hq LU);have CA:=Zh (fun w1 (h:Below wr wr w1)=>Wd b T1 (L.getD k 0:Nat) n w1 (Vb.o.below h));rw[LU]at CA;obtain⟨pv,sv,uv,Yh,Xy⟩:=Vb.o.Vm;have Un:=Xy.ZX;have hlenU:=Un.len;have zJ:=ch Yh 2;obtain⟨ua,KU,rfl,-,-⟩:=id Un;obtain⟨gu,SM,e2,O8⟩:=N1 Un Zo;subst e2;obtain⟨d0,d1,d2,d3⟩:=O8 q T1.ZX[q] (U' hq)
    have fG:gu<wr.heap.size:=by
     rcases Nat.lt_or_ge gu wr with h|h
     ·exact h
     ·simp[World.cell?,DT h]at d0
    have GJ:T1.ZX[q].source=n:=by simp at G_;exact G_.2
    have DD:=Zh (fun w1 (h:ZI w1 b T1)=>by
     have hh:=Mu.o T1.ZX[q] (O6 hq) GJ;have h1:=Gy b T1 T1.ZX[q] w1 h (by rw[GJ];exact hh.1) (by rw[GJ];exact hh.2);unfold VN at h1
     exact h1)
    generalize T1.ask T1.ZX[q]=TA at *;have Fs:=Vb.o.lt;clear Yp ZW Un Xy Yh O8 LU G_ x7 HFP Mu;generalize T1.ZX[q]=x at *;clear HSMM;generalize T1.ZX.length=NU at *;generalize L.getD k 0=p at *;generalize(L.take k).flatMap f=G at *;obtain⟨x0,x1,x2,x3⟩:=x;dsimp only at d0 d1 d2 d3 GJ HP DD;subst GJ
    have Zv:Hid (∀w',Below wr wr w'→w'.cell? ⟨b,2,none⟩=some (.slice (some ⟨gu,SM,none⟩) NU KU)∧w'.cell? ⟨gu,SM+q*4,none⟩=some (.int .i64 x0)∧w'.cell? ⟨gu,SM+q*4+1,none⟩=some (.int .i64 x1)∧w'.cell? ⟨gu,SM+q*4+2,none⟩=some (.int .i64 x2)∧w'.cell? ⟨gu,SM+q*4+3,none⟩=some (.bool x3)∧Below wr wr w'):=fun w' h=>
     ⟨(h.cell (p:=⟨b,2,none⟩) Fs).trans zJ,(h.cell (p:=⟨gu,SM+q*4,none⟩) fG).trans d0,(h.cell (p:=⟨gu,SM+q*4+1,none⟩) fG).trans d1,(h.cell (p:=⟨gu,SM+q*4+2,none⟩) fG).trans d2,(h.cell (p:=⟨gu,SM+q*4+3,none⟩) fG).trans d3,h⟩
    have Nh:Below wr wr wr:=YE _ _;go_upto_region 7 with fail
    go_cut [10] (fun qF wx=>∃g5:Nat,qF = .pointer (some ⟨g5,0,none⟩)∧(wx.cell? ⟨g5,0,none⟩=some (.int .i64 x0)∧wx.cell? ⟨g5,1,none⟩=some (.int .i64 x1)∧wx.cell? ⟨g5,2,none⟩=some (.int .i64 x2)∧wx.cell? ⟨g5,3,none⟩=some (.bool x3))∧wr.heap.size≤g5∧g5<wx.heap.size∧Below wr wr wx)
    case first=>
     go_region_held3 (fun w'=>w'.cell? ⟨b,2,none⟩=some (.slice (some ⟨gu,SM,none⟩) NU KU)∧w'.cell? ⟨gu,SM+q*4,none⟩=some (.int .i64 x0)∧w'.cell? ⟨gu,SM+q*4+1,none⟩=some (.int .i64 x1)∧w'.cell? ⟨gu,SM+q*4+2,none⟩=some (.int .i64 x2)∧w'.cell? ⟨gu,SM+q*4+3,none⟩=some (.bool x3)∧Below wr wr w') (first|(exact Zv.o _ WE)|(exact Zv.o _ (Below.drew WE))|(exact Zv.o _ (Below.alloc' WE (Zq _) _))|(exact Zv.o _ (Below.alloc' (Below.drew WE) (Zq _) _))|(exact Zv.o _ (Below.setCell (Below.setCell (Below.setCell (Below.setCell WE Zi _) Zi _) Zi _) Zi _))|(exact Zv.o _ (Below.setCell (Below.setCell (Below.setCell (Below.setCell (Below.drew WE) Zi _) Zi _) Zi _) Zi _))|go_keep) (first|(go_at_call 51;go_split_ands;(with_reducible refine Calls.mono (CA.o _ WE) ?_);rintro e w2 ⟨rfl,Y7⟩;have Yk:=Below.call WE (Zq _) Y7;obtain⟨Ls,IV⟩:=Sv Y7;have TF:=Y7.size)|fail)
     all_goals
      clear Nh;obtain⟨-,-,-,-,-,Nj⟩:= ‹_∧_∧_∧_∧_∧Below wr wr _›
      (go_wp2_with fail;go_meet;first|exact⟨_,rfl,⟨ch (Z9 w2 _) 0,ch (Z9 w2 _) 1,ch (Z9 w2 _) 2,ch (Z9 w2 _) 3⟩,Yk.size,by simp,Nj⟩|exact⟨_,rfl,set4 ((Ls _ _ Zi).trans (ch (Z9 _ _) 0)) ((Ls _ _ Zi).trans (ch (Z9 _ _) 1)) ((Ls _ _ Zi).trans (ch (Z9 _ _) 2)) ((Ls _ _ Zi).trans (ch (Z9 _ _) 3)),Zq _,by simp at TF;simp;omega,Nj⟩)
    case rest=>
     clear Nh;obtain⟨g5,rfl,⟨e0,e1,e2,e3⟩,hg5,hg5b,Nj⟩:=hcut;obtain⟨W4,rfl⟩:∃W4:World,W4=wc:=⟨_,rfl⟩;have HBZ:=Zh Nj;have HO0:=Zh (Zp Yd.o Nj);have Ki:=Nj.size;clear Nj;have GV:=Zh (HBZ.o.alloc HBZ.o.size (.cells ([⟨7,p,x1,0,0⟩].flatMap Z7).toArray 158));have mV:=Zh (fun(w3:World) (hg:(W4.alloc (.cells ([⟨7,p,x1,0,0⟩].flatMap Z7).toArray 158)).grownBy w3 _) (j:Nat)=>(pg hg (own_lt Yd.o) hg5 TY j).trans ((Z' W4 _).cell (p:=⟨g5,j,none⟩) hg5b));have HRG:=Zh (fun(w3:World) (hg:(W4.alloc (.cells ([⟨7,p,x1,0,0⟩].flatMap Z7).toArray 158)).grownBy w3 _)=>ZI.grown (Vb.o.below GV.o) (Zp Yd.o GV.o) hg hb);cases x3
     ·go_wp2_with (first|(at_builtin;refine YN rfl (.tmp 54) (.tmp 58) 98 rfl w Xt _ G.length (G.flatMap Z7) rfl (HO0.o.alloc _) _ 1 ([⟨7,p,x1,0,0⟩].flatMap Z7) rfl (Yn _ _ 1 _ ([⟨7,p,x1,0,0⟩].flatMap Z7) Zd Zi) rfl (XT _) Zo Zo (PJ T8 (PJ Ki Zi)) (fun v' w3 HO HG=>?_);have D7:=HRG.o w3 HG.o;have e0':=(mV.o w3 HG.o 0).trans e0;have e1':=(mV.o w3 HG.o 1).trans e1;have e2':=(mV.o w3 HG.o 2).trans e2;have e3':=(mV.o w3 HG.o 3).trans e3;have lF:=HG.o.size)|(go_at_call 99;(with_reducible refine(DD.o _ D7).mono ?_);rintro e w5 ⟨rfl,Nu⟩;have PD:=Zh Nu;have JK:=Nu.size;clear Nu)|(at_builtin;refine YN rfl (.tmp 63) (.tmp 67) 98 rfl w Xt _ (G++[Yz.mk 7 p x1 0 0]).length ((G++[Yz.mk 7 p x1 0 0]).flatMap Z7) rfl ?b1 _ 1 ([TA].flatMap Z7) rfl ?b2 rfl (XT _) ?b5 ?b6 ?b7 (fun v' w6 Hf wG=>?_)))
      case b1=>rw[UC,O7];exact(Zp HO.o PD.o).alloc _
      case b2=>exact Yn _ _ 1 _ ([TA].flatMap Z7) Zd rfl
      case b5=>rw[UC];simp;omega
      case b6=>rw[UC];simp;omega
      case b7=>simp at lF;simp;omega
      go_roundw
      case rel=>
       simp at lF;have fy:=PD.o.alloc PD.o.size (.cells ([TA].flatMap Z7).toArray 158);have ct:=(Zp HO.o fy);have g0:=TN.o.trans ((Fr.Z8 (· = b) GV.o).mono T8 (fun _ _ h=>h));have g1:=g0.grown HG.o TY (YG Yd.o);have g2:=g1.trans ((Fr.Z8 (· = b) fy).mono Zo (fun _ _ h=>h));refine⟨k+1,Zo,Zn,?_,?_,?_,?_⟩
       ·exact g2.grown wG.o TY (YG HO.o)
       ·exact Row.grown ((Row.grown (U0.o.below GV.o) (Zp Yd.o GV.o) HG.o Zd).below fy) ct wG.o Zd
       ·exact ZI.grown ((HRG.o w3 HG.o).below fy) ct wG.o hb
       ·rw[HS.o,HP.o,UC,O7];have h6:=Hf.o;rw[O7,UC]at h6;simpa using h6
      case measure=>simp[intOf];omega
     ·go_wp2_with (at_builtin;refine YN rfl (.tmp 54) (.tmp 58) 98 rfl w Xt _ G.length (G.flatMap Z7) rfl (HO0.o.alloc _) _ 1 ([⟨7,p,x1,0,0⟩].flatMap Z7) rfl (Yn _ _ 1 _ ([⟨7,p,x1,0,0⟩].flatMap Z7) Zd Zi) rfl (XT _) Zo Zo (PJ T8 (PJ Ki Zi)) (fun v' w3 HO HG=>?_);have e3':=(mV.o w3 HG.o 3).trans e3)
      go_roundw
      case rel=>
       have RF:=Zp Yd.o GV.o;refine⟨k+1,Zo,Zn,?_,?_,?_,?_⟩
       ·exact(TN.o.trans ((Fr.Z8 _ GV.o).mono T8 (fun _ _ h=>h))).grown HG.o (PJ T8 GV.o.size) (YG Yd.o)
       ·exact Row.grown (U0.o.below GV.o) RF HG.o Zd
       ·exact HRG.o w3 HG.o
       ·rw[HS.o,HP.o,UC,O7];exact HO.o
      case measure=>simp[intOf];omega
   ·exact bB
def J9{α:Type}(f:α→List Value)(c:Nat)(hc:∀x,(f x).length=c){i:Nat}(hi:i<c)(u:Value)(y:α):∀(l:List α) (k:Nat) (hk:k<l.length),f y=(f l[k]).set i u→(l.flatMap f).set (k*c+i) u=(l.set k y).flatMap f
 | [],k,hk,_=>by simp at hk
 | x :: l,0,_,h=>by
  rw[List.flatMap_cons,List.set_append_left _ _ (by rw[hc];omega),List.set_cons_zero,List.flatMap_cons];simp only[List.getElem_cons_zero]at h;rw[h,Nat.zero_mul,PA]
 | x :: l,k+1,hk,h=>by
  have ih:=J9 f c hc hi u y l k (by simpa using hk) (by simpa using h);rw[List.flatMap_cons,List.set_append_right _ _ (by rw[hc,Nat.succ_mul];omega),List.set_cons_succ,List.flatMap_cons,hc,show(k+1)*c+i-c=k*c+i by rw[Nat.succ_mul];omega,ih]
def Aq(b:Nat)(T:ZK)(o:Op)(sa ba:Option Addr)(sl sc bl bc:Nat)(w:World)(hR:ZI w b T)(Va:T.Small)(hs:0≤T.YZ o.peer o.source)(Pe:0≤T.YL o.source)(SK:0≤(T.changed o 4).want∧(T.changed o 4).want<(T.VU o.source).ss.length) :
  Calls prog 102 (Qu (some ⟨b,0,none⟩) (Jr o sa sl sc ba bl bc) 4) w fun e w'=>(∃v,e = .returned v∧Yx w' v (T.change o 4).1)∧ZI w' b (T.change o 4).2∧Fr w (· = b) w w':=by
 obtain⟨kd,p,n,la,nm,ss⟩:=o;dsimp only at hs Pe SK ⊢;have hb:=hR.lt;obtain⟨q,hq,LU,G_,-⟩:=Xx hs;have LU:T.YZ p n=q:=LU;have CB:=Zh (fun(w1:World) (h:ZI w1 b T)=>Wd b T p n w1 h);rw[LU]at CB
 have HX:Hid (T.changed ⟨kd,p,n,la,nm,ss⟩ 4={T.ZX[q]with ZV:=true}):=by
  show _=_;unfold ZK.changed ZK.N0;dsimp only;rw[LU,Wi,MA hq];rfl
 have HT1:Hid (T.ZO p n (T.changed ⟨kd,p,n,la,nm,ss⟩ 4)={T with ZX:=T.ZX.set q ({T.ZX[q]with ZV:=true})}):=by
  show _=_;rw[HX.o];unfold ZK.ZO;rw[LU,Wi]
 have HCH:Hid (T.change ⟨kd,p,n,la,nm,ss⟩ 4=(⟨4,p,n,0,0⟩ :: (if(T.changed ⟨kd,p,n,la,nm,ss⟩ 4).ZV||((T.ZO p n (T.changed ⟨kd,p,n,la,nm,ss⟩ 4)).VU n).ZJ then[]else[(T.ZO p n (T.changed ⟨kd,p,n,la,nm,ss⟩ 4)).ask (T.changed ⟨kd,p,n,la,nm,ss⟩ 4)]),T.ZO p n (T.changed ⟨kd,p,n,la,nm,ss⟩ 4))):=rfl;obtain⟨pv,sv,uv,Yh,Xy⟩:=hR.Vm;have Un:=Xy.ZX;have Uf:=Va.ZX;unfold small at Uf;have HR:=Zh hR;have rp:=Zh Un;have c2:=ch Yh 2;have f2:=hR.Yv 2;obtain⟨ua,KU,rfl,Oy,-,-⟩:=id Un;have DK:=Zh Pe;have Mu:=Zh SK;have DJ:=Zh (J9 Zb 4 (fun _=>rfl) (i:=3) Zd (.bool true) ({T.ZX[q]with ZV:=true}) T.ZX q hq rfl);have GZ:=Zh (Ta T.ZX);have PH:Hid (Row (w.alloc (.cells (Qa kd p n la (str nm) sa sl sc ba bl bc) 32)) 105 (.slice ua T.ZX.length KU) T.ZX.length (T.ZX.flatMap Zb)):=Un.below (Z' _ _);have c2a:=((Z' w (.cells (Qa kd p n la (str nm) sa sl sc ba bl bc) 32)).cell (p:=⟨b,2,none⟩) hb).trans c2;have f2a:=((Z' w (.cells (Qa kd p n la (str nm) sa sl sc ba bl bc) 32)).frozen (p:=⟨b,2,none⟩) hb).trans f2;have bQ:=hR.below (Z' w (.cells (Qa kd p n la (str nm) sa sl sc ba bl bc) 32));have hWs:=World.size_alloc w (.cells (Qa kd p n la (str nm) sa sl sc ba bl bc) 32);have hBX:=Z9 w (.cells (Qa kd p n la (str nm) sa sl sc ba bl bc) 32);have SE:Hid (Below w w (w.alloc (.cells (Qa kd p n la (str nm) sa sl sc ba bl bc) 32))):=Z' _ _
 clear Yh Xy Un hR Va hs LU c2 f2 Pe SK;go_enter func102,ntmps102;go_upto_region 1 with fail
 generalize w.alloc (.cells (Qa kd p n la (str nm) sa sl sc ba bl bc) 32)=W0 at *;go_wp2_with (at_builtin;refine YN rfl (.const (.slice none 0 0)) (.tmp 13) 49 rfl (w.heap.size+1) TZ (.slice none 0 0) 0 [] rfl (TH _ _ _ _) (.slice ua T.ZX.length KU) T.ZX.length (T.ZX.flatMap Zb) rfl PH.o GZ.o (Tb _) Zo Zo Zo (fun v1 w2 nW HG=>?_);have HQ:Hid (w2.ownsRow (w.heap.size+1) 105 4 v1 T.ZX.length (T.ZX.flatMap Zb)):=jr;clear nW;have Yk:Below (w.heap.size+1) W0 w2:=(YE _ _).grown HG.o Zo (fun k hk=>by cases hk);have c2:=(Yk.cell (p:=⟨b,2,none⟩) TQ).trans c2a;have f2:=(Yk.frozen (p:=⟨b,2,none⟩) TQ).trans f2a;obtain⟨g,cp,cur,hv,tW,Hz⟩:=OL HQ.o Zo;subst hv)
 have wq:=Zh Yk;have Rb:=Zh ((bQ.below (Yk.mono Zo)).KL (Row.Z4 HQ.o));have Kg:g≠b:=by omega
 have TP:=Zh (V_ HQ.o ((Fr.refl w2 (· = b) w2).setAt 2 (.slice (some ⟨g,0,none⟩) T.ZX.length cp)) (fun k hk=>by omega));have GX:Hid (Fr (w.heap.size+1) (· = b) W0 (w2.setCell ⟨b,2,none⟩ (.slice (some ⟨g,0,none⟩) T.ZX.length cp))):=(Fr.Z8 _ Yk).setAt _ _;have k2:(w2.setCell ⟨b,2,none⟩ (.slice (some ⟨g,0,none⟩) T.ZX.length cp)).cell? ⟨b,2,none⟩=some (.slice (some ⟨g,0,none⟩) T.ZX.length cp):=nu _ _ _ c2
 have fF:g<w2.heap.size:=by
  exact Yt8
 have tV:(w2.setCell ⟨b,2,none⟩ (.slice (some ⟨g,0,none⟩) T.ZX.length cp)).heap[g]?=some (.cells cur 105):=by simp[World.setCell,Array.getElem?_modify,Kg.symm,Hz]
 have PF:=size_setCell w2 ⟨b,2,none⟩ (.slice (some ⟨g,0,none⟩) T.ZX.length cp);have bV:=Yk.size;clear c2 f2 Hz Yk bQ;generalize w2.setCell ⟨b,2,none⟩ (.slice (some ⟨g,0,none⟩) T.ZX.length cp)=W1 at *;have rT:∀j,W1.frozen? ⟨g,j,none⟩=false:=fun j=>by simp[World.frozen?,tV]
 obtain⟨g',off',e1,O8⟩:=N1 (Row.Z4 TP.o) Zo;cases e1;obtain⟨d0,d1,d2,d3⟩:=O8 q T.ZX[q] (U' hq);rw[PA]at d0 d1 d2 d3;have VR:=fun(j:Nat)=>(GX.o.cell (p:=⟨w,j,none⟩) TQ TQ).trans (ch hBX j)
 have x1:W1.cell? ⟨w,1,none⟩=some (.int .i64 p):=VR 1;have x2:W1.cell? ⟨w,2,none⟩=some (.int .i64 n):=VR 2;have x3:W1.cell? ⟨w,3,none⟩=some (.int .i64 la):=VR 3;have ML:w.heap.size<W1.heap.size:=by omega
 have lg:b<W1.heap.size:=by omega
 have OC:g<W1.heap.size:=by omega
 have Zv:Hid (∀w',Below W1 W1 w'→w'.cell? ⟨b,2,none⟩=some (.slice (some ⟨g,0,none⟩) T.ZX.length cp)∧w'.cell? ⟨w,1,none⟩=some (.int .i64 p)∧w'.cell? ⟨w,2,none⟩=some (.int .i64 n)∧Below W1 W1 w'):=fun w' h=>
  ⟨(h.cell (p:=⟨b,2,none⟩) lg).trans k2,(h.cell (p:=⟨w,1,none⟩) ML).trans x1,(h.cell (p:=⟨w,2,none⟩) ML).trans x2,h⟩
 have JP:Hid (∀w',Below W1 W1 w'→(w'.cell? ⟨w,1,none⟩=some (.int .i64 p)∧w'.cell? ⟨w,2,none⟩=some (.int .i64 n)∧w'.cell? ⟨w,3,none⟩=some (.int .i64 la))∧(w'.cell? ⟨g,q*4,none⟩=some (.int .i64 T.ZX[q].peer)∧w'.cell? ⟨g,q*4+1,none⟩=some (.int .i64 T.ZX[q].source)∧w'.cell? ⟨g,q*4+2,none⟩=some (.int .i64 T.ZX[q].want)∧w'.cell? ⟨g,q*4+3,none⟩=some (.bool T.ZX[q].ZV))∧w'.frozen? ⟨g,q*4+3,none⟩=false):=fun w' h=>
  ⟨⟨(h.cell (p:=⟨w,1,none⟩) ML).trans x1,(h.cell (p:=⟨w,2,none⟩) ML).trans x2,(h.cell (p:=⟨w,3,none⟩) ML).trans x3⟩,⟨(h.cell (p:=⟨g,q*4,none⟩) OC).trans d0,(h.cell (p:=⟨g,q*4+1,none⟩) OC).trans d1,(h.cell (p:=⟨g,q*4+2,none⟩) OC).trans d2,(h.cell (p:=⟨g,q*4+3,none⟩) OC).trans d3⟩,(h.frozen (p:=⟨g,q*4+3,none⟩) OC).trans (rT _)⟩
 have EF:Hid (∀w',Below W1 W1 w'→ZI (w'.setCell ⟨g,q*4+3,none⟩ (.bool true)) b (T.ZO p n (T.changed ⟨kd,p,n,la,nm,ss⟩ 4))∧Fr w (· = b) w (w'.setCell ⟨g,q*4+3,none⟩ (.bool true))):=fun w' h=>by
  have hr:=Rb.o.below h;have fN:=Zp TP.o h;have hf:Fr w' (· = g) w' (w'.setCell ⟨g,q*4+3,none⟩ (.bool true)):=(Fr.refl _ _ _).setAt _ _
  have nB:w'.heap[g]?=some (.cells cur 105):=by
   rw[h.block g OC];exact tV
  have GH:∀e,105≠e→∀k c fr,k=g→w'.heap[k]?≠some (.cells c e fr):=by
   intro e he k c fr hk;subst hk;rw[nB];exact Ub he
  have Fs:=hr.lt;have pL:=bx fN Zo (i:=q*4+3) (.bool true);exact Yx25
 have hJ:Hid (∀w1,Below W1 W1 w1→Calls prog 51 (Qv (some ⟨b,0,none⟩) p n) w1 fun e w'=>e = .returned (.int .i64 q)∧Below w1 w1 w'):=fun w1 h=>CB.o w1 (by have:=Rb.o.below h;exact this)
 have Nh:Below W1 W1 W1:=YE _ _;have hqI:(q:Int)<(T.ZX.length:Int):=PM.2 hq;have hq0:(0:Int)≤(q:Int):=oK q
 have Mb:Hid ((T.changed ⟨kd,p,n,la,nm,ss⟩ 4).peer=T.ZX[q].peer∧(T.changed ⟨kd,p,n,la,nm,ss⟩ 4).source=n):=by
  show _∧_;rw[HX.o];simp at G_;exact⟨rfl,G_.2⟩
 have HPS:Hid (T.ZX[q].peer=p∧T.ZX[q].source=n):=by simp at G_;exact G_
 clear d0 d1 d2 d3 O8 VR x1 x2 x3 rT tV k2 HQ TP DJ G_;go_wp2_with fail
 go_region_held3 (fun w'=>w'.cell? ⟨b,2,none⟩=some (.slice (some ⟨g,0,none⟩) T.ZX.length cp)∧w'.cell? ⟨w,1,none⟩=some (.int .i64 p)∧w'.cell? ⟨w,2,none⟩=some (.int .i64 n)∧Below W1 W1 w') (first|(exact Zv.o _ WE)|(exact Zv.o _ (Below.drew WE))|go_keep) (first|(go_at_call 51;go_split_ands;(with_reducible refine Calls.mono (hJ.o _ WE) ?_);rintro e V ⟨rfl,M_⟩;have MD:=Below.call WE (Zq _) M_)|fail)
 obtain⟨⟨x1,x2,x3⟩,⟨d0,d1,d2,d3⟩,z0⟩:=JP.o _ MD;have pO:=MD.size;have BA:=Zh MD;have hgV:¬g=V.heap.size:=by omega
 have hgV2:¬V.heap.size=g:=by omega
 have hzV:w.heap.size<V.heap.size:=by omega
 have hzg:g<V.heap.size:=by omega
 have nB:¬g=w.heap.size:=by omega
 have hgw2:¬w.heap.size=g:=by omega
 have hVw:¬V.heap.size=w.heap.size:=by omega
 clear Nh M_ MD;go_wp2_with fail
 obtain⟨hA1,hA2⟩:=EF.o V BA.o;go_ret;have mZ:Hid (T.change ⟨kd,p,n,la,nm,ss⟩ 4=([⟨4,p,n,0,0⟩],T.ZO p n (T.changed ⟨kd,p,n,la,nm,ss⟩ 4))):=by show _=_;rw[HCH.o,HX.o];simp
 rw[mZ.o];exact⟨⟨_,rfl,Yn _ _ 1 _ ([⟨4,p,n,0,0⟩].flatMap Z7) Zd Zi⟩,(hA1.alloc _).alloc _,(hA2.alloc TY _).alloc TY _⟩
def DU(b:Nat)(T:ZK)(o:Op)(sa ba:Option Addr)(sl sc bl bc:Nat)(w:World)(hR:ZI w b T)(Va:T.Small)(hs:0≤T.YZ o.peer o.source)(Pe:0≤T.YL o.source)(SK:0≤(T.changed o 5).want∧(T.changed o 5).want<(T.VU o.source).ss.length) :
  Calls prog 102 (Qu (some ⟨b,0,none⟩) (Jr o sa sl sc ba bl bc) 5) w fun e w'=>(∃v,e = .returned v∧Yx w' v (T.change o 5).1)∧ZI w' b (T.change o 5).2∧Fr w (· = b) w w':=by
 obtain⟨kd,p,n,la,nm,ss⟩:=o;dsimp only at hs Pe SK ⊢;have hb:=hR.lt;obtain⟨q,hq,LU,G_,-⟩:=Xx hs;have LU:T.YZ p n=q:=LU;have CB:=Zh (fun(w1:World) (h:ZI w1 b T)=>Wd b T p n w1 h);rw[LU]at CB
 have HX:Hid (T.changed ⟨kd,p,n,la,nm,ss⟩ 5={T.ZX[q]with ZV:=false}):=by
  show _=_;unfold ZK.changed ZK.N0;dsimp only;rw[LU,Wi,MA hq];rfl
 have HT1:Hid (T.ZO p n (T.changed ⟨kd,p,n,la,nm,ss⟩ 5)={T with ZX:=T.ZX.set q ({T.ZX[q]with ZV:=false})}):=by
  show _=_;rw[HX.o];unfold ZK.ZO;rw[LU,Wi]
 have HCH:Hid (T.change ⟨kd,p,n,la,nm,ss⟩ 5=(⟨5,p,n,0,0⟩ :: (if(T.changed ⟨kd,p,n,la,nm,ss⟩ 5).ZV||((T.ZO p n (T.changed ⟨kd,p,n,la,nm,ss⟩ 5)).VU n).ZJ then[]else[(T.ZO p n (T.changed ⟨kd,p,n,la,nm,ss⟩ 5)).ask (T.changed ⟨kd,p,n,la,nm,ss⟩ 5)]),T.ZO p n (T.changed ⟨kd,p,n,la,nm,ss⟩ 5))):=rfl;obtain⟨pv,sv,uv,Yh,Xy⟩:=hR.Vm;have Un:=Xy.ZX;have Uf:=Va.ZX;unfold small at Uf;have HR:=Zh hR;have rp:=Zh Un;have c2:=ch Yh 2;have f2:=hR.Yv 2;obtain⟨ua,KU,rfl,Oy,-,-⟩:=id Un;have DK:=Zh Pe;have Mu:=Zh SK;have DJ:=Zh (J9 Zb 4 (fun _=>rfl) (i:=3) Zd (.bool false) ({T.ZX[q]with ZV:=false}) T.ZX q hq rfl);have GZ:=Zh (Ta T.ZX);have PH:Hid (Row (w.alloc (.cells (Qa kd p n la (str nm) sa sl sc ba bl bc) 32)) 105 (.slice ua T.ZX.length KU) T.ZX.length (T.ZX.flatMap Zb)):=Un.below (Z' _ _);have c2a:=((Z' w (.cells (Qa kd p n la (str nm) sa sl sc ba bl bc) 32)).cell (p:=⟨b,2,none⟩) hb).trans c2;have f2a:=((Z' w (.cells (Qa kd p n la (str nm) sa sl sc ba bl bc) 32)).frozen (p:=⟨b,2,none⟩) hb).trans f2;have bQ:=hR.below (Z' w (.cells (Qa kd p n la (str nm) sa sl sc ba bl bc) 32));have hWs:=World.size_alloc w (.cells (Qa kd p n la (str nm) sa sl sc ba bl bc) 32);have hBX:=Z9 w (.cells (Qa kd p n la (str nm) sa sl sc ba bl bc) 32);have SE:Hid (Below w w (w.alloc (.cells (Qa kd p n la (str nm) sa sl sc ba bl bc) 32))):=Z' _ _
 clear Yh Xy Un hR Va hs LU c2 f2 Pe SK;go_enter func102,ntmps102;go_upto_region 1 with fail
 generalize w.alloc (.cells (Qa kd p n la (str nm) sa sl sc ba bl bc) 32)=W0 at *;go_wp2_with (at_builtin;refine YN rfl (.const (.slice none 0 0)) (.tmp 13) 49 rfl (w.heap.size+1) TZ (.slice none 0 0) 0 [] rfl (TH _ _ _ _) (.slice ua T.ZX.length KU) T.ZX.length (T.ZX.flatMap Zb) rfl PH.o GZ.o (Tb _) Zo Zo Zo (fun v1 w2 nW HG=>?_);have HQ:Hid (w2.ownsRow (w.heap.size+1) 105 4 v1 T.ZX.length (T.ZX.flatMap Zb)):=jr;clear nW;have Yk:Below (w.heap.size+1) W0 w2:=(YE _ _).grown HG.o Zo (fun k hk=>by cases hk);have c2:=(Yk.cell (p:=⟨b,2,none⟩) TQ).trans c2a;have f2:=(Yk.frozen (p:=⟨b,2,none⟩) TQ).trans f2a;obtain⟨g,cp,cur,hv,tW,Hz⟩:=OL HQ.o Zo;subst hv)
 have wq:=Zh Yk;have Rb:=Zh ((bQ.below (Yk.mono Zo)).KL (Row.Z4 HQ.o));have Kg:g≠b:=by omega
 have TP:=Zh (V_ HQ.o ((Fr.refl w2 (· = b) w2).setAt 2 (.slice (some ⟨g,0,none⟩) T.ZX.length cp)) (fun k hk=>by omega));have GX:Hid (Fr (w.heap.size+1) (· = b) W0 (w2.setCell ⟨b,2,none⟩ (.slice (some ⟨g,0,none⟩) T.ZX.length cp))):=(Fr.Z8 _ Yk).setAt _ _;have k2:(w2.setCell ⟨b,2,none⟩ (.slice (some ⟨g,0,none⟩) T.ZX.length cp)).cell? ⟨b,2,none⟩=some (.slice (some ⟨g,0,none⟩) T.ZX.length cp):=nu _ _ _ c2
 have fF:g<w2.heap.size:=by
  exact Yt8
 have tV:(w2.setCell ⟨b,2,none⟩ (.slice (some ⟨g,0,none⟩) T.ZX.length cp)).heap[g]?=some (.cells cur 105):=by simp[World.setCell,Array.getElem?_modify,Kg.symm,Hz]
 have PF:=size_setCell w2 ⟨b,2,none⟩ (.slice (some ⟨g,0,none⟩) T.ZX.length cp);have bV:=Yk.size;clear c2 f2 Hz Yk bQ;generalize w2.setCell ⟨b,2,none⟩ (.slice (some ⟨g,0,none⟩) T.ZX.length cp)=W1 at *;have rT:∀j,W1.frozen? ⟨g,j,none⟩=false:=fun j=>by simp[World.frozen?,tV]
 obtain⟨g',off',e1,O8⟩:=N1 (Row.Z4 TP.o) Zo;cases e1;obtain⟨d0,d1,d2,d3⟩:=O8 q T.ZX[q] (U' hq);rw[PA]at d0 d1 d2 d3;have VR:=fun(j:Nat)=>(GX.o.cell (p:=⟨w,j,none⟩) TQ TQ).trans (ch hBX j)
 have x1:W1.cell? ⟨w,1,none⟩=some (.int .i64 p):=VR 1;have x2:W1.cell? ⟨w,2,none⟩=some (.int .i64 n):=VR 2;have x3:W1.cell? ⟨w,3,none⟩=some (.int .i64 la):=VR 3;have ML:w.heap.size<W1.heap.size:=by omega
 have lg:b<W1.heap.size:=by omega
 have OC:g<W1.heap.size:=by omega
 have Zv:Hid (∀w',Below W1 W1 w'→w'.cell? ⟨b,2,none⟩=some (.slice (some ⟨g,0,none⟩) T.ZX.length cp)∧w'.cell? ⟨w,1,none⟩=some (.int .i64 p)∧w'.cell? ⟨w,2,none⟩=some (.int .i64 n)∧Below W1 W1 w'):=fun w' h=>
  ⟨(h.cell (p:=⟨b,2,none⟩) lg).trans k2,(h.cell (p:=⟨w,1,none⟩) ML).trans x1,(h.cell (p:=⟨w,2,none⟩) ML).trans x2,h⟩
 have JP:Hid (∀w',Below W1 W1 w'→(w'.cell? ⟨w,1,none⟩=some (.int .i64 p)∧w'.cell? ⟨w,2,none⟩=some (.int .i64 n)∧w'.cell? ⟨w,3,none⟩=some (.int .i64 la))∧(w'.cell? ⟨g,q*4,none⟩=some (.int .i64 T.ZX[q].peer)∧w'.cell? ⟨g,q*4+1,none⟩=some (.int .i64 T.ZX[q].source)∧w'.cell? ⟨g,q*4+2,none⟩=some (.int .i64 T.ZX[q].want)∧w'.cell? ⟨g,q*4+3,none⟩=some (.bool T.ZX[q].ZV))∧w'.frozen? ⟨g,q*4+3,none⟩=false):=fun w' h=>
  ⟨⟨(h.cell (p:=⟨w,1,none⟩) ML).trans x1,(h.cell (p:=⟨w,2,none⟩) ML).trans x2,(h.cell (p:=⟨w,3,none⟩) ML).trans x3⟩,⟨(h.cell (p:=⟨g,q*4,none⟩) OC).trans d0,(h.cell (p:=⟨g,q*4+1,none⟩) OC).trans d1,(h.cell (p:=⟨g,q*4+2,none⟩) OC).trans d2,(h.cell (p:=⟨g,q*4+3,none⟩) OC).trans d3⟩,(h.frozen (p:=⟨g,q*4+3,none⟩) OC).trans (rT _)⟩
 have EF:Hid (∀w',Below W1 W1 w'→ZI (w'.setCell ⟨g,q*4+3,none⟩ (.bool false)) b (T.ZO p n (T.changed ⟨kd,p,n,la,nm,ss⟩ 5))∧Fr w (· = b) w (w'.setCell ⟨g,q*4+3,none⟩ (.bool false))):=fun w' h=>by
  have hr:=Rb.o.below h;have fN:=Zp TP.o h;have hf:Fr w' (· = g) w' (w'.setCell ⟨g,q*4+3,none⟩ (.bool false)):=(Fr.refl _ _ _).setAt _ _
  have nB:w'.heap[g]?=some (.cells cur 105):=by
   rw[h.block g OC];exact tV
  have GH:∀e,105≠e→∀k c fr,k=g→w'.heap[k]?≠some (.cells c e fr):=by
   intro e he k c fr hk;subst hk;rw[nB];exact Ub he
  have Fs:=hr.lt;have pL:=bx fN Zo (i:=q*4+3) (.bool false);exact Yx25
 have hJ:Hid (∀w1,Below W1 W1 w1→Calls prog 51 (Qv (some ⟨b,0,none⟩) p n) w1 fun e w'=>e = .returned (.int .i64 q)∧Below w1 w1 w'):=fun w1 h=>CB.o w1 (by have:=Rb.o.below h;exact this)
 have Nh:Below W1 W1 W1:=YE _ _;have hqI:(q:Int)<(T.ZX.length:Int):=PM.2 hq;have hq0:(0:Int)≤(q:Int):=oK q
 have Mb:Hid ((T.changed ⟨kd,p,n,la,nm,ss⟩ 5).peer=T.ZX[q].peer∧(T.changed ⟨kd,p,n,la,nm,ss⟩ 5).source=n):=by
  show _∧_;rw[HX.o];simp at G_;exact⟨rfl,G_.2⟩
 have HPS:Hid (T.ZX[q].peer=p∧T.ZX[q].source=n):=by simp at G_;exact G_
 clear d0 d1 d2 d3 O8 VR x1 x2 x3 rT tV k2 HQ TP DJ G_;go_wp2_with fail
 go_region_held3 (fun w'=>w'.cell? ⟨b,2,none⟩=some (.slice (some ⟨g,0,none⟩) T.ZX.length cp)∧w'.cell? ⟨w,1,none⟩=some (.int .i64 p)∧w'.cell? ⟨w,2,none⟩=some (.int .i64 n)∧Below W1 W1 w') (first|(exact Zv.o _ WE)|(exact Zv.o _ (Below.drew WE))|go_keep) (first|(go_at_call 51;go_split_ands;(with_reducible refine Calls.mono (hJ.o _ WE) ?_);rintro e V ⟨rfl,M_⟩;have MD:=Below.call WE (Zq _) M_)|fail)
 obtain⟨⟨x1,x2,x3⟩,⟨d0,d1,d2,d3⟩,z0⟩:=JP.o _ MD;have pO:=MD.size;have BA:=Zh MD;have hgV:¬g=V.heap.size:=by omega
 have hgV2:¬V.heap.size=g:=by omega
 have hzV:w.heap.size<V.heap.size:=by omega
 have hzg:g<V.heap.size:=by omega
 have nB:¬g=w.heap.size:=by omega
 have hgw2:¬w.heap.size=g:=by omega
 have hVw:¬V.heap.size=w.heap.size:=by omega
 clear Nh M_ MD;go_wp2_with fail
 obtain⟨hA1,hA2⟩:=EF.o V BA.o;obtain⟨m,hm,Ox,-,-⟩:=Xx DK.o;have Ox:T.YL n=m:=Ox
 have mX:Hid (((T.ZO p n (T.changed ⟨kd,p,n,la,nm,ss⟩ 5)).VU n).ZJ=T.Yb[m].ZJ):=by
  show(T.Yb.getD (T.YL n).toNat Uv).ZJ=_;rw[Ox,Wi,QQ,U' hm];rfl
 have DD:Hid (∀w1,ZI w1 b (T.ZO p n (T.changed ⟨kd,p,n,la,nm,ss⟩ 5))→Calls prog 99 (Qi (some ⟨b,0,none⟩) (Ql T.ZX[q].peer T.ZX[q].source ({T.ZX[q]with ZV:=false}).want ({T.ZX[q]with ZV:=false}).ZV)) w1 fun e w'=>e = .returned (VN ((T.ZO p n (T.changed ⟨kd,p,n,la,nm,ss⟩ 5)).ask (T.changed ⟨kd,p,n,la,nm,ss⟩ 5)))∧Below w1 w1 w'):=fun w1 h=>by
  have h1:=Gy b (T.ZO p n (T.changed ⟨kd,p,n,la,nm,ss⟩ 5)) (T.changed ⟨kd,p,n,la,nm,ss⟩ 5) w1 h (by rw[Mb.o.2];exact DK.o) (by rw[Mb.o.2];exact Mu.o);rw[HX.o]at h1 ⊢;exact h1
 have CS:Hid (∀w1,ZI w1 b (T.ZO p n (T.changed ⟨kd,p,n,la,nm,ss⟩ 5))→Calls prog 49 (Qk (some ⟨b,0,none⟩) n) w1 fun e w'=>e = .returned (.int .i64 m)∧Below w1 w1 w'):=fun w1 h=>by
  have h1:=VJ b _ n w1 h;rw[show(T.ZO p n (T.changed ⟨kd,p,n,la,nm,ss⟩ 5)).YL n=m from Ox]at h1;exact h1
 have fS:=size_setCell V ⟨g,q*4+3,none⟩ (.bool false);have y0:(V.setCell ⟨g,q*4+3,none⟩ (.bool false)).cell? ⟨g,q*4,none⟩=some (.int .i64 T.ZX[q].peer):=(World.cell?_setCell_other _ _ _ _ Zi).trans d0;have y1:(V.setCell ⟨g,q*4+3,none⟩ (.bool false)).cell? ⟨g,q*4+1,none⟩=some (.int .i64 T.ZX[q].source):=(World.cell?_setCell_other _ _ _ _ Zi).trans d1;have y2:(V.setCell ⟨g,q*4+3,none⟩ (.bool false)).cell? ⟨g,q*4+2,none⟩=some (.int .i64 ({T.ZX[q]with ZV:=false}).want):=(World.cell?_setCell_other _ _ _ _ Zi).trans d2;have y3:(V.setCell ⟨g,q*4+3,none⟩ (.bool false)).cell? ⟨g,q*4+3,none⟩=some (.bool ({T.ZX[q]with ZV:=false}).ZV):=nu _ _ _ d3;have yb:(V.setCell ⟨g,q*4+3,none⟩ (.bool false)).cell? ⟨w,2,none⟩=some (.int .i64 n):=(World.cell?_setCell_other _ _ _ _ (by simp <;> omega)).trans x2;generalize V.setCell ⟨g,q*4+3,none⟩ (.bool false)=W5 at *;have ht:=Z9 W5 (.cells (Qh 5 p n 0 0) 158);rw[fS]at ht;have T6:=Z' W5 (.cells (Qh 5 p n 0 0) 158);have kf:=hA1.alloc (.cells (Qh 5 p n 0 0) 158);have bL:=hA2.alloc Zo (.cells (Qh 5 p n 0 0) 158);have cL:=(T6.cell (p:=⟨g,q*4,none⟩) TQ).trans y0;have y1':=(T6.cell (p:=⟨g,q*4+1,none⟩) TQ).trans y1;have gA:=(T6.cell (p:=⟨g,q*4+2,none⟩) TQ).trans y2;have cM:=(T6.cell (p:=⟨g,q*4+3,none⟩) TQ).trans y3;have yb':=(T6.cell (p:=⟨w,2,none⟩) TQ).trans yb;have fT:=World.size_alloc W5 (.cells (Qh 5 p n 0 0) 158)
 generalize W5.alloc (.cells (Qh 5 p n 0 0) 158)=W6 at *;clear y0 y1 y2 y3 yb T6 hA1 hA2 d0 d1 d2 d3 z0 x1 x2 x3;have wN:=Zh kf;have ay:=Zh bL;obtain⟨pv6,sv6,uv6,ME,H'⟩:=kf.Vm;obtain⟨P,S7,UM,AX⟩:=H'.Yb;have S7:P.map Prod.fst=T.Yb:=S7;have kG:m<P.length:=by rw[←S7,Te]at hm;exact hm
 have bN:=UM.len;have s1:=ch ME 1;obtain⟨pa,pc,rfl,-,-⟩:=id UM;obtain⟨gs,P8,e4,Tx⟩:=R6 UM Zo;subst e4;obtain⟨-,-,-,s4⟩:=Tx m P[m] (U' kG)
 have bO:P[m].1.ZJ=T.Yb[m].ZJ:=by
  have:(P.map Prod.fst)[m]?=T.Yb[m]?:=by rw[S7]
  rw[List.getElem?_map,U' kG,U' hm]at this;simp at this;rw[this]
 rw[bO]at s4
 have hgs:gs<W6.heap.size:=by
  exact Yt18
 have nD:(m:Int)<(P.length:Int):=PM.2 kG;have pG:(0:Int)≤(m:Int):=oK m;have Cg:b<W6.heap.size:=by omega
 have rS:g<W6.heap.size:=by omega
 have Ce:V.heap.size<W6.heap.size:=by omega
 have hw6:w.heap.size<W6.heap.size:=by omega
 have Fx:w.heap.size≤W6.heap.size:=by omega
 have GJ:n=T.ZX[q].source:=HPS.o.2.symm;clear ME H' S7 UM AX Tx bO kf bL Ox;generalize P.length=NP at *;generalize T.Yb[m].ZJ=mu at *
 have UK:Hid (∀w',Below W6 W6 w'→(w'.cell? ⟨g,q*4,none⟩=some (.int .i64 T.ZX[q].peer)∧w'.cell? ⟨g,q*4+1,none⟩=some (.int .i64 T.ZX[q].source)∧w'.cell? ⟨g,q*4+2,none⟩=some (.int .i64 ({T.ZX[q]with ZV:=false}).want)∧w'.cell? ⟨g,q*4+3,none⟩=some (.bool ({T.ZX[q]with ZV:=false}).ZV))∧(w'.cell? ⟨V,0,none⟩=some (.int .i64 5)∧w'.cell? ⟨V,1,none⟩=some (.int .i64 p)∧w'.cell? ⟨V,2,none⟩=some (.int .i64 n)∧w'.cell? ⟨V,3,none⟩=some (.int .i64 0)∧w'.cell? ⟨V,4,none⟩=some (.int .u32 0))∧w'.cell? ⟨w,2,none⟩=some (.int .i64 n)∧w'.cell? ⟨b,1,none⟩=some (.slice (some ⟨gs,P8,none⟩) NP pc)∧w'.cell? ⟨gs,P8+m*4+3,none⟩=some (.bool mu)∧Below W6 W6 w'):=fun w' h=>
  ⟨⟨(h.cell (p:=⟨g,q*4,none⟩) rS).trans cL,(h.cell (p:=⟨g,q*4+1,none⟩) rS).trans y1',(h.cell (p:=⟨g,q*4+2,none⟩) rS).trans gA,(h.cell (p:=⟨g,q*4+3,none⟩) rS).trans cM⟩,⟨(h.cell (p:=⟨V,0,none⟩) Ce).trans (ch ht 0),(h.cell (p:=⟨V,1,none⟩) Ce).trans (ch ht 1),(h.cell (p:=⟨V,2,none⟩) Ce).trans (ch ht 2),(h.cell (p:=⟨V,3,none⟩) Ce).trans (ch ht 3),(h.cell (p:=⟨V,4,none⟩) Ce).trans (ch ht 4)⟩,(h.cell (p:=⟨w,2,none⟩) hw6).trans yb',(h.cell (p:=⟨b,1,none⟩) Cg).trans s1,(h.cell (p:=⟨gs,P8+m*4+3,none⟩) hgs).trans s4,h⟩
 have nV:Hid ((T.changed ⟨kd,p,n,la,nm,ss⟩ 5).ZV=({T.ZX[q]with ZV:=false}).ZV):=by show _=_;rw[HX.o]
 generalize T.ZO p n (T.changed ⟨kd,p,n,la,nm,ss⟩ 5)=T1 at *;generalize T1.ask (T.changed ⟨kd,p,n,la,nm,ss⟩ 5)=TA at *;generalize(T.changed ⟨kd,p,n,la,nm,ss⟩ 5).ZV=cpau at *;clear ht cL y1' gA s1 s4 hm DK Mu HX Mb HT1 EF Zv JP Rb GX SE wq BA rp PH HR CB hJ HPS GZ;dsimp only at UK DD cM nV;generalize T.ZX[q].source=xs at *;generalize T.ZX[q].peer=xp at *;generalize T.ZX[q].want=xw at *;subst GJ;have Nh:Below W6 W6 W6:=YE _ _;have mZ:Hid (T.change ⟨kd,p,n,la,nm,ss⟩ 5=(⟨5,p,n,0,0⟩ :: (if mu then[]else[TA]),T1)):=by show _=_;rw[HCH.o,nV.o,mX.o];simp
 go_upto_region 13 with fail
 go_cut [73] (fun s73 wx=>s73 = .bool mu∧Below W6 W6 wx)
 case first=>
  go_region_held3 (fun w'=>(w'.cell? ⟨g,q*4,none⟩=some (.int .i64 xp)∧w'.cell? ⟨g,q*4+1,none⟩=some (.int .i64 n)∧w'.cell? ⟨g,q*4+2,none⟩=some (.int .i64 xw)∧w'.cell? ⟨g,q*4+3,none⟩=some (.bool false))∧(w'.cell? ⟨V,0,none⟩=some (.int .i64 5)∧w'.cell? ⟨V,1,none⟩=some (.int .i64 p)∧w'.cell? ⟨V,2,none⟩=some (.int .i64 n)∧w'.cell? ⟨V,3,none⟩=some (.int .i64 0)∧w'.cell? ⟨V,4,none⟩=some (.int .u32 0))∧w'.cell? ⟨w,2,none⟩=some (.int .i64 n)∧w'.cell? ⟨b,1,none⟩=some (.slice (some ⟨gs,P8,none⟩) NP pc)∧w'.cell? ⟨gs,P8+m*4+3,none⟩=some (.bool mu)∧Below W6 W6 w') (first|(exact UK.o _ WE)|(exact UK.o _ (Below.drew WE))|go_keep) (first|(go_at_call 49;go_split_ands;(with_reducible refine Calls.mono (CS.o _ (wN.o.below WE)) ?_);rintro e V2 ⟨rfl,M_⟩;have MD:=Below.call WE (Zq _) M_)|fail)
  all_goals(go_wp2_with fail;go_meet;exact⟨rfl,by first|with_reducible assumption|exact Below.drew WE⟩)
 case rest=>
  clear Nh;obtain⟨rfl,Nj⟩:=hcut;obtain⟨W7,rfl⟩:∃W7:World,W7=wc:=⟨_,rfl⟩;cases mu
  ·go_upto_region 15 with fail
   go_cut [6] (fun s6 wx=>Yx wx s6 [⟨5,p,n,0,0⟩,TA]∧Below W6 W6 wx)
   case first=>
    go_region_held3 (fun w'=>(w'.cell? ⟨g,q*4,none⟩=some (.int .i64 xp)∧w'.cell? ⟨g,q*4+1,none⟩=some (.int .i64 n)∧w'.cell? ⟨g,q*4+2,none⟩=some (.int .i64 xw)∧w'.cell? ⟨g,q*4+3,none⟩=some (.bool false))∧(w'.cell? ⟨V,0,none⟩=some (.int .i64 5)∧w'.cell? ⟨V,1,none⟩=some (.int .i64 p)∧w'.cell? ⟨V,2,none⟩=some (.int .i64 n)∧w'.cell? ⟨V,3,none⟩=some (.int .i64 0)∧w'.cell? ⟨V,4,none⟩=some (.int .u32 0))∧w'.cell? ⟨w,2,none⟩=some (.int .i64 n)∧w'.cell? ⟨b,1,none⟩=some (.slice (some ⟨gs,P8,none⟩) NP pc)∧w'.cell? ⟨gs,P8+m*4+3,none⟩=some (.bool false)∧Below W6 W6 w') (first|(exact UK.o _ WE)|(exact UK.o _ (Below.drew WE))|(exact UK.o _ (Below.alloc' WE (Zq _) _))|(exact UK.o _ (Below.alloc' (Below.drew WE) (Zq _) _))|go_keep) (first|(go_at_call 99;go_split_ands;(with_reducible refine Calls.mono (DD.o _ (wN.o.below WE)) ?_);rintro e V3 ⟨rfl,M_⟩;have D4:=Below.call WE (Zq _) M_;unfold VN)|fail)
    go_wp2_with fail
    go_meet;exact⟨Yn _ _ 2 _ ([⟨5,p,n,0,0⟩,TA].flatMap Z7) Zd rfl,D4.alloc D4.size _⟩
   case rest=>
    exact aZ
  ·obtain⟨-,⟨t0,t1,t2,t3,t4⟩,-⟩:=UK.o _ Nj;have hzt:V.heap.size<W7.heap.size:=Od Ce Nj.size;go_wp2;go_ret;rw[mZ.o];exact⟨⟨_,rfl,Yn _ _ 1 _ ([⟨5,p,n,0,0⟩].flatMap Z7) Zd rfl⟩,(wN.o.below Nj).alloc _,(ay.o.trans ((Fr.Z8 _ Nj).mono Fx (fun _ _ h=>h))).alloc (PJ Fx Nj.size) _⟩
def xu(b:Nat)(T:ZK)(o:Op)(sa ba:Option Addr)(sl sc bl bc:Nat)(w:World)(hR:ZI w b T)(Va:T.Small)(hs:0≤T.YZ o.peer o.source)(Pe:0≤T.YL o.source)(SK:0≤(T.changed o 8).want∧(T.changed o 8).want<(T.VU o.source).ss.length) :
  Calls prog 102 (Qu (some ⟨b,0,none⟩) (Jr o sa sl sc ba bl bc) 8) w fun e w'=>(∃v,e = .returned v∧Yx w' v (T.change o 8).1)∧ZI w' b (T.change o 8).2∧Fr w (· = b) w w':=by
 obtain⟨kd,p,n,la,nm,ss⟩:=o;dsimp only at hs Pe SK ⊢;have hb:=hR.lt;obtain⟨q,hq,LU,G_,-⟩:=Xx hs;have LU:T.YZ p n=q:=LU;have CB:=Zh (fun(w1:World) (h:ZI w1 b T)=>Wd b T p n w1 h);rw[LU]at CB
 have HX:Hid (T.changed ⟨kd,p,n,la,nm,ss⟩ 8={T.ZX[q]with want:=la}):=by
  show _=_;unfold ZK.changed ZK.N0;dsimp only;rw[LU,Wi,MA hq];rfl
 have HT1:Hid (T.ZO p n (T.changed ⟨kd,p,n,la,nm,ss⟩ 8)={T with ZX:=T.ZX.set q ({T.ZX[q]with want:=la})}):=by
  show _=_;rw[HX.o];unfold ZK.ZO;rw[LU,Wi]
 have HCH:Hid (T.change ⟨kd,p,n,la,nm,ss⟩ 8=(⟨8,p,n,la,0⟩ :: (if(T.changed ⟨kd,p,n,la,nm,ss⟩ 8).ZV||((T.ZO p n (T.changed ⟨kd,p,n,la,nm,ss⟩ 8)).VU n).ZJ then[]else[(T.ZO p n (T.changed ⟨kd,p,n,la,nm,ss⟩ 8)).ask (T.changed ⟨kd,p,n,la,nm,ss⟩ 8)]),T.ZO p n (T.changed ⟨kd,p,n,la,nm,ss⟩ 8))):=rfl;obtain⟨pv,sv,uv,Yh,Xy⟩:=hR.Vm;have Un:=Xy.ZX;have Uf:=Va.ZX;unfold small at Uf;have HR:=Zh hR;have rp:=Zh Un;have c2:=ch Yh 2;have f2:=hR.Yv 2;obtain⟨ua,KU,rfl,Oy,-,-⟩:=id Un;have DK:=Zh Pe;have Mu:=Zh SK;have DJ:=Zh (J9 Zb 4 (fun _=>rfl) (i:=2) Zd (.int .i64 la) ({T.ZX[q]with want:=la}) T.ZX q hq rfl);have GZ:=Zh (Ta T.ZX);have PH:Hid (Row (w.alloc (.cells (Qa kd p n la (str nm) sa sl sc ba bl bc) 32)) 105 (.slice ua T.ZX.length KU) T.ZX.length (T.ZX.flatMap Zb)):=Un.below (Z' _ _);have c2a:=((Z' w (.cells (Qa kd p n la (str nm) sa sl sc ba bl bc) 32)).cell (p:=⟨b,2,none⟩) hb).trans c2;have f2a:=((Z' w (.cells (Qa kd p n la (str nm) sa sl sc ba bl bc) 32)).frozen (p:=⟨b,2,none⟩) hb).trans f2;have bQ:=hR.below (Z' w (.cells (Qa kd p n la (str nm) sa sl sc ba bl bc) 32));have hWs:=World.size_alloc w (.cells (Qa kd p n la (str nm) sa sl sc ba bl bc) 32);have hBX:=Z9 w (.cells (Qa kd p n la (str nm) sa sl sc ba bl bc) 32);have SE:Hid (Below w w (w.alloc (.cells (Qa kd p n la (str nm) sa sl sc ba bl bc) 32))):=Z' _ _
 clear Yh Xy Un hR Va hs LU c2 f2 Pe SK;go_enter func102,ntmps102;go_upto_region 1 with fail
 generalize w.alloc (.cells (Qa kd p n la (str nm) sa sl sc ba bl bc) 32)=W0 at *;go_wp2_with (at_builtin;refine YN rfl (.const (.slice none 0 0)) (.tmp 13) 49 rfl (w.heap.size+1) TZ (.slice none 0 0) 0 [] rfl (TH _ _ _ _) (.slice ua T.ZX.length KU) T.ZX.length (T.ZX.flatMap Zb) rfl PH.o GZ.o (Tb _) Zo Zo Zo (fun v1 w2 nW HG=>?_);have HQ:Hid (w2.ownsRow (w.heap.size+1) 105 4 v1 T.ZX.length (T.ZX.flatMap Zb)):=jr;clear nW;have Yk:Below (w.heap.size+1) W0 w2:=(YE _ _).grown HG.o Zo (fun k hk=>by cases hk);have c2:=(Yk.cell (p:=⟨b,2,none⟩) TQ).trans c2a;have f2:=(Yk.frozen (p:=⟨b,2,none⟩) TQ).trans f2a;obtain⟨g,cp,cur,hv,tW,Hz⟩:=OL HQ.o Zo;subst hv)
 have wq:=Zh Yk;have Rb:=Zh ((bQ.below (Yk.mono Zo)).KL (Row.Z4 HQ.o));have Kg:g≠b:=by omega
 have TP:=Zh (V_ HQ.o ((Fr.refl w2 (· = b) w2).setAt 2 (.slice (some ⟨g,0,none⟩) T.ZX.length cp)) (fun k hk=>by omega));have GX:Hid (Fr (w.heap.size+1) (· = b) W0 (w2.setCell ⟨b,2,none⟩ (.slice (some ⟨g,0,none⟩) T.ZX.length cp))):=(Fr.Z8 _ Yk).setAt _ _;have k2:(w2.setCell ⟨b,2,none⟩ (.slice (some ⟨g,0,none⟩) T.ZX.length cp)).cell? ⟨b,2,none⟩=some (.slice (some ⟨g,0,none⟩) T.ZX.length cp):=nu _ _ _ c2
 have fF:g<w2.heap.size:=by
  exact Yt8
 have tV:(w2.setCell ⟨b,2,none⟩ (.slice (some ⟨g,0,none⟩) T.ZX.length cp)).heap[g]?=some (.cells cur 105):=by simp[World.setCell,Array.getElem?_modify,Kg.symm,Hz]
 have PF:=size_setCell w2 ⟨b,2,none⟩ (.slice (some ⟨g,0,none⟩) T.ZX.length cp);have bV:=Yk.size;clear c2 f2 Hz Yk bQ;generalize w2.setCell ⟨b,2,none⟩ (.slice (some ⟨g,0,none⟩) T.ZX.length cp)=W1 at *;have rT:∀j,W1.frozen? ⟨g,j,none⟩=false:=fun j=>by simp[World.frozen?,tV]
 obtain⟨g',off',e1,O8⟩:=N1 (Row.Z4 TP.o) Zo;cases e1;obtain⟨d0,d1,d2,d3⟩:=O8 q T.ZX[q] (U' hq);rw[PA]at d0 d1 d2 d3;have VR:=fun(j:Nat)=>(GX.o.cell (p:=⟨w,j,none⟩) TQ TQ).trans (ch hBX j)
 have x1:W1.cell? ⟨w,1,none⟩=some (.int .i64 p):=VR 1;have x2:W1.cell? ⟨w,2,none⟩=some (.int .i64 n):=VR 2;have x3:W1.cell? ⟨w,3,none⟩=some (.int .i64 la):=VR 3;have ML:w.heap.size<W1.heap.size:=by omega
 have lg:b<W1.heap.size:=by omega
 have OC:g<W1.heap.size:=by omega
 have Zv:Hid (∀w',Below W1 W1 w'→w'.cell? ⟨b,2,none⟩=some (.slice (some ⟨g,0,none⟩) T.ZX.length cp)∧w'.cell? ⟨w,1,none⟩=some (.int .i64 p)∧w'.cell? ⟨w,2,none⟩=some (.int .i64 n)∧Below W1 W1 w'):=fun w' h=>
  ⟨(h.cell (p:=⟨b,2,none⟩) lg).trans k2,(h.cell (p:=⟨w,1,none⟩) ML).trans x1,(h.cell (p:=⟨w,2,none⟩) ML).trans x2,h⟩
 have JP:Hid (∀w',Below W1 W1 w'→(w'.cell? ⟨w,1,none⟩=some (.int .i64 p)∧w'.cell? ⟨w,2,none⟩=some (.int .i64 n)∧w'.cell? ⟨w,3,none⟩=some (.int .i64 la))∧(w'.cell? ⟨g,q*4,none⟩=some (.int .i64 T.ZX[q].peer)∧w'.cell? ⟨g,q*4+1,none⟩=some (.int .i64 T.ZX[q].source)∧w'.cell? ⟨g,q*4+2,none⟩=some (.int .i64 T.ZX[q].want)∧w'.cell? ⟨g,q*4+3,none⟩=some (.bool T.ZX[q].ZV))∧w'.frozen? ⟨g,q*4+2,none⟩=false):=fun w' h=>
  ⟨⟨(h.cell (p:=⟨w,1,none⟩) ML).trans x1,(h.cell (p:=⟨w,2,none⟩) ML).trans x2,(h.cell (p:=⟨w,3,none⟩) ML).trans x3⟩,⟨(h.cell (p:=⟨g,q*4,none⟩) OC).trans d0,(h.cell (p:=⟨g,q*4+1,none⟩) OC).trans d1,(h.cell (p:=⟨g,q*4+2,none⟩) OC).trans d2,(h.cell (p:=⟨g,q*4+3,none⟩) OC).trans d3⟩,(h.frozen (p:=⟨g,q*4+2,none⟩) OC).trans (rT _)⟩
 have EF:Hid (∀w',Below W1 W1 w'→ZI (w'.setCell ⟨g,q*4+2,none⟩ (.int .i64 la)) b (T.ZO p n (T.changed ⟨kd,p,n,la,nm,ss⟩ 8))∧Fr w (· = b) w (w'.setCell ⟨g,q*4+2,none⟩ (.int .i64 la))):=fun w' h=>by
  have hr:=Rb.o.below h;have fN:=Zp TP.o h;have hf:Fr w' (· = g) w' (w'.setCell ⟨g,q*4+2,none⟩ (.int .i64 la)):=(Fr.refl _ _ _).setAt _ _
  have nB:w'.heap[g]?=some (.cells cur 105):=by
   rw[h.block g OC];exact tV
  have GH:∀e,105≠e→∀k c fr,k=g→w'.heap[k]?≠some (.cells c e fr):=by
   intro e he k c fr hk;subst hk;rw[nB];exact Ub he
  have Fs:=hr.lt;have pL:=bx fN Zo (i:=q*4+2) (.int .i64 la);exact Yx25
 have hJ:Hid (∀w1,Below W1 W1 w1→Calls prog 51 (Qv (some ⟨b,0,none⟩) p n) w1 fun e w'=>e = .returned (.int .i64 q)∧Below w1 w1 w'):=fun w1 h=>CB.o w1 (by have:=Rb.o.below h;exact this)
 have Nh:Below W1 W1 W1:=YE _ _;have hqI:(q:Int)<(T.ZX.length:Int):=PM.2 hq;have hq0:(0:Int)≤(q:Int):=oK q
 have Mb:Hid ((T.changed ⟨kd,p,n,la,nm,ss⟩ 8).peer=T.ZX[q].peer∧(T.changed ⟨kd,p,n,la,nm,ss⟩ 8).source=n):=by
  show _∧_;rw[HX.o];simp at G_;exact⟨rfl,G_.2⟩
 have HPS:Hid (T.ZX[q].peer=p∧T.ZX[q].source=n):=by simp at G_;exact G_
 clear d0 d1 d2 d3 O8 VR x1 x2 x3 rT tV k2 HQ TP DJ G_;go_wp2_with fail
 go_region_held3 (fun w'=>w'.cell? ⟨b,2,none⟩=some (.slice (some ⟨g,0,none⟩) T.ZX.length cp)∧w'.cell? ⟨w,1,none⟩=some (.int .i64 p)∧w'.cell? ⟨w,2,none⟩=some (.int .i64 n)∧Below W1 W1 w') (first|(exact Zv.o _ WE)|(exact Zv.o _ (Below.drew WE))|go_keep) (first|(go_at_call 51;go_split_ands;(with_reducible refine Calls.mono (hJ.o _ WE) ?_);rintro e V ⟨rfl,M_⟩;have MD:=Below.call WE (Zq _) M_)|fail)
 obtain⟨⟨x1,x2,x3⟩,⟨d0,d1,d2,d3⟩,z0⟩:=JP.o _ MD;have pO:=MD.size;have BA:=Zh MD;have hgV:¬g=V.heap.size:=by omega
 have hgV2:¬V.heap.size=g:=by omega
 have hzV:w.heap.size<V.heap.size:=by omega
 have hzg:g<V.heap.size:=by omega
 have nB:¬g=w.heap.size:=by omega
 have hgw2:¬w.heap.size=g:=by omega
 have hVw:¬V.heap.size=w.heap.size:=by omega
 clear Nh M_ MD;go_wp2_with fail
 obtain⟨hA1,hA2⟩:=EF.o V BA.o;obtain⟨m,hm,Ox,-,-⟩:=Xx DK.o;have Ox:T.YL n=m:=Ox
 have mX:Hid (((T.ZO p n (T.changed ⟨kd,p,n,la,nm,ss⟩ 8)).VU n).ZJ=T.Yb[m].ZJ):=by
  show(T.Yb.getD (T.YL n).toNat Uv).ZJ=_;rw[Ox,Wi,QQ,U' hm];rfl
 have DD:Hid (∀w1,ZI w1 b (T.ZO p n (T.changed ⟨kd,p,n,la,nm,ss⟩ 8))→Calls prog 99 (Qi (some ⟨b,0,none⟩) (Ql T.ZX[q].peer T.ZX[q].source ({T.ZX[q]with want:=la}).want ({T.ZX[q]with want:=la}).ZV)) w1 fun e w'=>e = .returned (VN ((T.ZO p n (T.changed ⟨kd,p,n,la,nm,ss⟩ 8)).ask (T.changed ⟨kd,p,n,la,nm,ss⟩ 8)))∧Below w1 w1 w'):=fun w1 h=>by
  have h1:=Gy b (T.ZO p n (T.changed ⟨kd,p,n,la,nm,ss⟩ 8)) (T.changed ⟨kd,p,n,la,nm,ss⟩ 8) w1 h (by rw[Mb.o.2];exact DK.o) (by rw[Mb.o.2];exact Mu.o);rw[HX.o]at h1 ⊢;exact h1
 have CS:Hid (∀w1,ZI w1 b (T.ZO p n (T.changed ⟨kd,p,n,la,nm,ss⟩ 8))→Calls prog 49 (Qk (some ⟨b,0,none⟩) n) w1 fun e w'=>e = .returned (.int .i64 m)∧Below w1 w1 w'):=fun w1 h=>by
  have h1:=VJ b _ n w1 h;rw[show(T.ZO p n (T.changed ⟨kd,p,n,la,nm,ss⟩ 8)).YL n=m from Ox]at h1;exact h1
 have fS:=size_setCell V ⟨g,q*4+2,none⟩ (.int .i64 la);have y0:(V.setCell ⟨g,q*4+2,none⟩ (.int .i64 la)).cell? ⟨g,q*4,none⟩=some (.int .i64 T.ZX[q].peer):=(World.cell?_setCell_other _ _ _ _ Zi).trans d0;have y1:(V.setCell ⟨g,q*4+2,none⟩ (.int .i64 la)).cell? ⟨g,q*4+1,none⟩=some (.int .i64 T.ZX[q].source):=(World.cell?_setCell_other _ _ _ _ Zi).trans d1;have y2:(V.setCell ⟨g,q*4+2,none⟩ (.int .i64 la)).cell? ⟨g,q*4+2,none⟩=some (.int .i64 ({T.ZX[q]with want:=la}).want):=nu _ _ _ d2;have y3:(V.setCell ⟨g,q*4+2,none⟩ (.int .i64 la)).cell? ⟨g,q*4+3,none⟩=some (.bool ({T.ZX[q]with want:=la}).ZV):=(World.cell?_setCell_other _ _ _ _ Zi).trans d3;have yb:(V.setCell ⟨g,q*4+2,none⟩ (.int .i64 la)).cell? ⟨w,2,none⟩=some (.int .i64 n):=(World.cell?_setCell_other _ _ _ _ (by simp <;> omega)).trans x2;generalize V.setCell ⟨g,q*4+2,none⟩ (.int .i64 la)=W5 at *;have ht:=Z9 W5 (.cells (Qh 8 p n la 0) 158);rw[fS]at ht;have T6:=Z' W5 (.cells (Qh 8 p n la 0) 158);have kf:=hA1.alloc (.cells (Qh 8 p n la 0) 158);have bL:=hA2.alloc Zo (.cells (Qh 8 p n la 0) 158);have cL:=(T6.cell (p:=⟨g,q*4,none⟩) TQ).trans y0;have y1':=(T6.cell (p:=⟨g,q*4+1,none⟩) TQ).trans y1;have gA:=(T6.cell (p:=⟨g,q*4+2,none⟩) TQ).trans y2;have cM:=(T6.cell (p:=⟨g,q*4+3,none⟩) TQ).trans y3;have yb':=(T6.cell (p:=⟨w,2,none⟩) TQ).trans yb;have fT:=World.size_alloc W5 (.cells (Qh 8 p n la 0) 158)
 generalize W5.alloc (.cells (Qh 8 p n la 0) 158)=W6 at *;clear y0 y1 y2 y3 yb T6 hA1 hA2 d0 d1 d2 d3 z0 x1 x2 x3;have wN:=Zh kf;have ay:=Zh bL;obtain⟨pv6,sv6,uv6,ME,H'⟩:=kf.Vm;obtain⟨P,S7,UM,AX⟩:=H'.Yb;have S7:P.map Prod.fst=T.Yb:=S7;have kG:m<P.length:=by rw[←S7,Te]at hm;exact hm
 have bN:=UM.len;have s1:=ch ME 1;obtain⟨pa,pc,rfl,-,-⟩:=id UM;obtain⟨gs,P8,e4,Tx⟩:=R6 UM Zo;subst e4;obtain⟨-,-,-,s4⟩:=Tx m P[m] (U' kG)
 have bO:P[m].1.ZJ=T.Yb[m].ZJ:=by
  have:(P.map Prod.fst)[m]?=T.Yb[m]?:=by rw[S7]
  rw[List.getElem?_map,U' kG,U' hm]at this;simp at this;rw[this]
 rw[bO]at s4
 have hgs:gs<W6.heap.size:=by
  exact Yt18
 have nD:(m:Int)<(P.length:Int):=PM.2 kG;have pG:(0:Int)≤(m:Int):=oK m;have Cg:b<W6.heap.size:=by omega
 have rS:g<W6.heap.size:=by omega
 have Ce:V.heap.size<W6.heap.size:=by omega
 have hw6:w.heap.size<W6.heap.size:=by omega
 have Fx:w.heap.size≤W6.heap.size:=by omega
 have GJ:n=T.ZX[q].source:=HPS.o.2.symm;clear ME H' S7 UM AX Tx bO kf bL Ox;generalize P.length=NP at *;generalize T.Yb[m].ZJ=mu at *
 have UK:Hid (∀w',Below W6 W6 w'→(w'.cell? ⟨g,q*4,none⟩=some (.int .i64 T.ZX[q].peer)∧w'.cell? ⟨g,q*4+1,none⟩=some (.int .i64 T.ZX[q].source)∧w'.cell? ⟨g,q*4+2,none⟩=some (.int .i64 ({T.ZX[q]with want:=la}).want)∧w'.cell? ⟨g,q*4+3,none⟩=some (.bool ({T.ZX[q]with want:=la}).ZV))∧(w'.cell? ⟨V,0,none⟩=some (.int .i64 8)∧w'.cell? ⟨V,1,none⟩=some (.int .i64 p)∧w'.cell? ⟨V,2,none⟩=some (.int .i64 n)∧w'.cell? ⟨V,3,none⟩=some (.int .i64 la)∧w'.cell? ⟨V,4,none⟩=some (.int .u32 0))∧w'.cell? ⟨w,2,none⟩=some (.int .i64 n)∧w'.cell? ⟨b,1,none⟩=some (.slice (some ⟨gs,P8,none⟩) NP pc)∧w'.cell? ⟨gs,P8+m*4+3,none⟩=some (.bool mu)∧Below W6 W6 w'):=fun w' h=>
  ⟨⟨(h.cell (p:=⟨g,q*4,none⟩) rS).trans cL,(h.cell (p:=⟨g,q*4+1,none⟩) rS).trans y1',(h.cell (p:=⟨g,q*4+2,none⟩) rS).trans gA,(h.cell (p:=⟨g,q*4+3,none⟩) rS).trans cM⟩,⟨(h.cell (p:=⟨V,0,none⟩) Ce).trans (ch ht 0),(h.cell (p:=⟨V,1,none⟩) Ce).trans (ch ht 1),(h.cell (p:=⟨V,2,none⟩) Ce).trans (ch ht 2),(h.cell (p:=⟨V,3,none⟩) Ce).trans (ch ht 3),(h.cell (p:=⟨V,4,none⟩) Ce).trans (ch ht 4)⟩,(h.cell (p:=⟨w,2,none⟩) hw6).trans yb',(h.cell (p:=⟨b,1,none⟩) Cg).trans s1,(h.cell (p:=⟨gs,P8+m*4+3,none⟩) hgs).trans s4,h⟩
 have nV:Hid ((T.changed ⟨kd,p,n,la,nm,ss⟩ 8).ZV=({T.ZX[q]with want:=la}).ZV):=by show _=_;rw[HX.o]
 generalize T.ZO p n (T.changed ⟨kd,p,n,la,nm,ss⟩ 8)=T1 at *;generalize T1.ask (T.changed ⟨kd,p,n,la,nm,ss⟩ 8)=TA at *;generalize(T.changed ⟨kd,p,n,la,nm,ss⟩ 8).ZV=cpau at *;clear ht cL y1' gA s1 s4 hm DK Mu HX Mb HT1 EF Zv JP Rb GX SE wq BA rp PH HR CB hJ HPS GZ;dsimp only at UK DD cM nV;generalize T.ZX[q].source=xs at *;generalize T.ZX[q].peer=xp at *;generalize T.ZX[q].ZV=xq at *;subst GJ;have Nh:Below W6 W6 W6:=YE _ _;cases xq
 ·have mZ:Hid (T.change ⟨kd,p,n,la,nm,ss⟩ 8=(⟨8,p,n,la,0⟩ :: (if mu then[]else[TA]),T1)):=by show _=_;rw[HCH.o,nV.o,mX.o];simp
  go_upto_region 13 with fail
  go_cut [73] (fun s73 wx=>s73 = .bool mu∧Below W6 W6 wx)
  case first=>
   go_region_held3 (fun w'=>(w'.cell? ⟨g,q*4,none⟩=some (.int .i64 xp)∧w'.cell? ⟨g,q*4+1,none⟩=some (.int .i64 n)∧w'.cell? ⟨g,q*4+2,none⟩=some (.int .i64 la)∧w'.cell? ⟨g,q*4+3,none⟩=some (.bool false))∧(w'.cell? ⟨V,0,none⟩=some (.int .i64 8)∧w'.cell? ⟨V,1,none⟩=some (.int .i64 p)∧w'.cell? ⟨V,2,none⟩=some (.int .i64 n)∧w'.cell? ⟨V,3,none⟩=some (.int .i64 la)∧w'.cell? ⟨V,4,none⟩=some (.int .u32 0))∧w'.cell? ⟨w,2,none⟩=some (.int .i64 n)∧w'.cell? ⟨b,1,none⟩=some (.slice (some ⟨gs,P8,none⟩) NP pc)∧w'.cell? ⟨gs,P8+m*4+3,none⟩=some (.bool mu)∧Below W6 W6 w') (first|(exact UK.o _ WE)|(exact UK.o _ (Below.drew WE))|go_keep) (first|(go_at_call 49;go_split_ands;(with_reducible refine Calls.mono (CS.o _ (wN.o.below WE)) ?_);rintro e V2 ⟨rfl,M_⟩;have MD:=Below.call WE (Zq _) M_)|fail)
   all_goals(go_wp2_with fail;go_meet;exact⟨rfl,by first|with_reducible assumption|exact Below.drew WE⟩)
  case rest=>
   clear Nh;obtain⟨rfl,Nj⟩:=hcut;obtain⟨W7,rfl⟩:∃W7:World,W7=wc:=⟨_,rfl⟩;cases mu
   ·go_upto_region 15 with fail
    go_cut [6] (fun s6 wx=>Yx wx s6 [⟨8,p,n,la,0⟩,TA]∧Below W6 W6 wx)
    case first=>
     go_region_held3 (fun w'=>(w'.cell? ⟨g,q*4,none⟩=some (.int .i64 xp)∧w'.cell? ⟨g,q*4+1,none⟩=some (.int .i64 n)∧w'.cell? ⟨g,q*4+2,none⟩=some (.int .i64 la)∧w'.cell? ⟨g,q*4+3,none⟩=some (.bool false))∧(w'.cell? ⟨V,0,none⟩=some (.int .i64 8)∧w'.cell? ⟨V,1,none⟩=some (.int .i64 p)∧w'.cell? ⟨V,2,none⟩=some (.int .i64 n)∧w'.cell? ⟨V,3,none⟩=some (.int .i64 la)∧w'.cell? ⟨V,4,none⟩=some (.int .u32 0))∧w'.cell? ⟨w,2,none⟩=some (.int .i64 n)∧w'.cell? ⟨b,1,none⟩=some (.slice (some ⟨gs,P8,none⟩) NP pc)∧w'.cell? ⟨gs,P8+m*4+3,none⟩=some (.bool false)∧Below W6 W6 w') (first|(exact UK.o _ WE)|(exact UK.o _ (Below.drew WE))|(exact UK.o _ (Below.alloc' WE (Zq _) _))|(exact UK.o _ (Below.alloc' (Below.drew WE) (Zq _) _))|go_keep) (first|(go_at_call 99;go_split_ands;(with_reducible refine Calls.mono (DD.o _ (wN.o.below WE)) ?_);rintro e V3 ⟨rfl,M_⟩;have D4:=Below.call WE (Zq _) M_;unfold VN)|fail)
     go_wp2_with fail
     go_meet;exact⟨Yn _ _ 2 _ ([⟨8,p,n,la,0⟩,TA].flatMap Z7) Zd rfl,D4.alloc D4.size _⟩
    case rest=>
     exact aZ
   ·obtain⟨-,⟨t0,t1,t2,t3,t4⟩,-⟩:=UK.o _ Nj;have hzt:V.heap.size<W7.heap.size:=Od Ce Nj.size;go_wp2;go_ret;rw[mZ.o];exact⟨⟨_,rfl,Yn _ _ 1 _ ([⟨8,p,n,la,0⟩].flatMap Z7) Zd rfl⟩,(wN.o.below Nj).alloc _,(ay.o.trans ((Fr.Z8 _ Nj).mono Fx (fun _ _ h=>h))).alloc (PJ Fx Nj.size) _⟩
 ·have mZ:Hid (T.change ⟨kd,p,n,la,nm,ss⟩ 8=([⟨8,p,n,la,0⟩],T1)):=by show _=_;rw[HCH.o,nV.o];simp
  obtain⟨⟨-,-,-,z3⟩,⟨t0,t1,t2,t3,t4⟩,-⟩:=UK.o _ Nh;clear Nh fT fS;go_wp2_with fail
  go_quiet (fail)
  go_wp2;go_ret;rw[mZ.o];exact⟨⟨_,rfl,Yn _ _ 1 _ ([⟨8,p,n,la,0⟩].flatMap Z7) Zd rfl⟩,(wN.o.below (below_drewN (YE _ _) _)).alloc _,(Fr.drewN ay.o _).alloc Fx _⟩
structure og(T:ZK)(o:Op):Prop where
 kind:2≤o.kind∧o.kind≤12
 peer:1≤o.peer
 ssl:o.kind=4→o.ZG.length≤3
 leave:o.kind=3→0≤T.Xw o.peer
 src:5≤o.kind→0≤T.YL o.source
 ZC:o.kind=6→0≤o.ZC∧o.ZC<(T.VU o.source).ss.length
 sub:o.kind=7∨10≤o.kind→0≤T.YZ o.peer o.source
 unmute:o.kind=9→∀x∈(T.ZF o.source false).ZX,x.source=o.source→0≤(T.ZF o.source false).YL o.source∧0≤x.want∧x.want<((T.ZF o.source false).VU o.source).ss.length
 change:∀k,(o.kind=10∧k=4∨o.kind=11∧k=5∨o.kind=12∧k=8)→0≤(T.changed o k).want∧(T.changed o k).want<(T.VU o.source).ss.length
def UE(b:Nat)(T:ZK)(o:Op)(w:World)(e:Ending)(w':World):Prop:=
 (∃v,e = .returned (.tuple #[v,.int .i64 (T.Wq o).2])∧Yx w' v (T.Wq o).1.1)∧ZI w' b (T.Wq o).1.2∧Fr w (· = b) w w'
def U9{b:Nat}{T T':ZK}{o:Op}{w w':World}{v:Value}{l:List Yz}{c:Int}(h:Hid (T.Wq o=((l,T'),c)))(h1:Yx w' v l)(h2:ZI w' b T')(h3:Fr w (· = b) w w'):UE b T o w (.returned (.tuple #[v,.int .i64 c])) w':=by
 unfold UE;rw[h.o];exact⟨⟨v,rfl,h1⟩,h2,h3⟩
def gp(b:Nat)(T:ZK)(o:Op)(sa ba:Option Addr)(sc bl bc:Nat)(w:World)(hR:ZI w b T)(Va:T.Small)(hT:Xn w)(UD:o.name.length<9223372036854775807)(Sy:∀x∈T.Zu,x.name.length<9223372036854775807)
  (ZW:XG w (.slice sa o.ZG.length sc) o.ZG.length (bd o.ZG)) (hw:T.XQ o≠0) :
  Calls prog 72 (Qi (some ⟨b,0,none⟩) (Jr o sa o.ZG.length sc ba bl bc)) w (UE b T o w):=by
 have cw:=VV b T o sa ba sc bl bc (w.alloc (.cells (Jr o sa o.ZG.length sc ba bl bc) 32)) (hR.below (Z' _ _)) (Utf8Tabs_below hT (Z' _ _)) UD Sy (ZW.below (Z' _ _));have hb:=hR.lt;have PI:=Zh ZW;have HR:=Zh hR;have LK:=Zh Va;have HF:Hid (T.Wq o=(([],T),T.XQ o)):=by show _=_;unfold ZK.Wq;rw[ZU hw]
 have CW:=Zh cw;have UL:(T.XQ o !=0)=true:=by rw[Rs];exact hw
 have rO:(T.XQ o==0)=false:=by rw[Wz];exact hw
 obtain⟨kd,p,n,la,nm,ss⟩:=o;dsimp only at *;clear hR Va hT UD Sy ZW cw hw;generalize T.XQ ⟨kd,p,n,la,nm,ss⟩=wv at *;have Gs:=Zh (Z9 w (.cells (Qa kd p n la (str nm) sa ss.length sc ba bl bc) 32));have EN:=World.size_alloc w (.cells (Qa kd p n la (str nm) sa ss.length sc ba bl bc) 32);have SE:Hid (Below w w (w.alloc (.cells (Qa kd p n la (str nm) sa ss.length sc ba bl bc) 32))):=Z' _ _;go_enter func72,ntmps72;go_wp2_with fail
 (with_reducible refine CW.o.mono ?_)
 rintro e w1 ⟨rfl,YV⟩;have VA:Hid (Below w w w1):=SE.o.trans (YV.mono Zo);have Rn:w.heap.size<w1.heap.size:=by have:=YV.size;omega
 have VR:=fun(j:Nat)=>(YV.cell (p:=⟨w,j,none⟩) TQ).trans (ch Gs.o j)
 have x0:w1.cell? ⟨w,0,none⟩=some (.int .i64 kd):=VR 0;have x1:w1.cell? ⟨w,1,none⟩=some (.int .i64 p):=VR 1;have x2:w1.cell? ⟨w,2,none⟩=some (.int .i64 n):=VR 2;have x3:w1.cell? ⟨w,3,none⟩=some (.int .i64 la):=VR 3;have x4:w1.cell? ⟨w,4,none⟩=some (.string (str nm)):=VR 4;have x5:w1.cell? ⟨w,5,none⟩=some (.slice sa ss.length sc):=VR 5;have x6:w1.cell? ⟨w,6,none⟩=some (.slice ba bl bc):=VR 6;clear YV VR;go_wp2
 go_ret2
 exact U9 HF (Row.nil _ _) (HR.o.below VA.o) (Fr.Z8 _ VA.o)
def qw(b:Nat)(T:ZK)(o:Op)(sa ba:Option Addr)(sc bl bc:Nat)(w:World)(hR:ZI w b T)(Va:T.Small)(hT:Xn w)(UD:o.name.length<9223372036854775807)(Sy:∀x∈T.Zu,x.name.length<9223372036854775807)
  (ZW:XG w (.slice sa o.ZG.length sc) o.ZG.length (bd o.ZG)) (hw:T.XQ o=0) (V9:og T o) (hk:o.kind=3) :
  Calls prog 72 (Qi (some ⟨b,0,none⟩) (Jr o sa o.ZG.length sc ba bl bc)) w (UE b T o w):=by
 have cw:=VV b T o sa ba sc bl bc (w.alloc (.cells (Jr o sa o.ZG.length sc ba bl bc) 32)) (hR.below (Z' _ _)) (Utf8Tabs_below hT (Z' _ _)) UD Sy (ZW.below (Z' _ _));have hb:=hR.lt;have PI:=Zh ZW;have HR:=Zh hR;have LK:=Zh Va;have HF:Hid (T.Wq o=(T.leave o.peer,0)):=by show _=_;unfold ZK.Wq ZK.turns;rw[Z3 (by rw[hw];simp)];simp[hk]
 rw[hw]at cw;have CW:=Zh cw;have Pg:=Zh V9;obtain⟨kd,p,n,la,nm,ss⟩:=o;dsimp only at *;subst hk;have C:=Zh (fun(w1:World) (h:ZI w1 b T)=>uS b T p w1 h Va V9.peer (V9.leave rfl));clear hR Va hT UD Sy ZW cw hw V9;have Gs:=Zh (Z9 w (.cells (Qa 3 p n la (str nm) sa ss.length sc ba bl bc) 32));have EN:=World.size_alloc w (.cells (Qa 3 p n la (str nm) sa ss.length sc ba bl bc) 32);have SE:Hid (Below w w (w.alloc (.cells (Qa 3 p n la (str nm) sa ss.length sc ba bl bc) 32))):=Z' _ _;go_enter func72,ntmps72;go_wp2_with fail
 (with_reducible refine CW.o.mono ?_)
 rintro e w1 ⟨rfl,YV⟩;have VA:Hid (Below w w w1):=SE.o.trans (YV.mono Zo);have Rn:w.heap.size<w1.heap.size:=by have:=YV.size;omega
 have VR:=fun(j:Nat)=>(YV.cell (p:=⟨w,j,none⟩) TQ).trans (ch Gs.o j)
 have x0:w1.cell? ⟨w,0,none⟩=some (.int .i64 3):=VR 0;have x1:w1.cell? ⟨w,1,none⟩=some (.int .i64 p):=VR 1;have x2:w1.cell? ⟨w,2,none⟩=some (.int .i64 n):=VR 2;have x3:w1.cell? ⟨w,3,none⟩=some (.int .i64 la):=VR 3;have x4:w1.cell? ⟨w,4,none⟩=some (.string (str nm)):=VR 4;have x5:w1.cell? ⟨w,5,none⟩=some (.slice sa ss.length sc):=VR 5;have x6:w1.cell? ⟨w,6,none⟩=some (.slice ba bl bc):=VR 6;clear YV VR;go_wp2_with (go_at_call 97;(with_reducible refine(C.o w1 (HR.o.below VA.o)).mono ?_);rintro e w2 ⟨⟨tv,rfl,Sz⟩,UG,Wb⟩)
 go_ret2
 exact U9 HF Sz UG ((Fr.Z8 _ VA.o).trans (Wb.mono Zo (fun _ _ h=>h)))
def Ej(b:Nat)(T:ZK)(o:Op)(sa ba:Option Addr)(sc bl bc:Nat)(w:World)(hR:ZI w b T)(Va:T.Small)(hT:Xn w)(UD:o.name.length<9223372036854775807)(Sy:∀x∈T.Zu,x.name.length<9223372036854775807)
  (ZW:XG w (.slice sa o.ZG.length sc) o.ZG.length (bd o.ZG)) (hw:T.XQ o=0) (V9:og T o) (hk:o.kind=5) :
  Calls prog 72 (Qi (some ⟨b,0,none⟩) (Jr o sa o.ZG.length sc ba bl bc)) w (UE b T o w):=by
 have cw:=VV b T o sa ba sc bl bc (w.alloc (.cells (Jr o sa o.ZG.length sc ba bl bc) 32)) (hR.below (Z' _ _)) (Utf8Tabs_below hT (Z' _ _)) UD Sy (ZW.below (Z' _ _));have hb:=hR.lt;have PI:=Zh ZW;have HR:=Zh hR;have LK:=Zh Va;have HF:Hid (T.Wq o=(T.Yj o.source,0)):=by show _=_;unfold ZK.Wq ZK.turns;rw[Z3 (by rw[hw];simp)];simp[hk]
 rw[hw]at cw;have CW:=Zh cw;have Pg:=Zh V9;obtain⟨kd,p,n,la,nm,ss⟩:=o;dsimp only at *;subst hk;have C:=Zh (fun(w1:World) (h:ZI w1 b T)=>Pc b T n w1 h Va (V9.src Zi));clear hR Va hT UD Sy ZW cw hw V9;have Gs:=Zh (Z9 w (.cells (Qa 5 p n la (str nm) sa ss.length sc ba bl bc) 32));have EN:=World.size_alloc w (.cells (Qa 5 p n la (str nm) sa ss.length sc ba bl bc) 32);have SE:Hid (Below w w (w.alloc (.cells (Qa 5 p n la (str nm) sa ss.length sc ba bl bc) 32))):=Z' _ _;go_enter func72,ntmps72;go_wp2_with fail
 (with_reducible refine CW.o.mono ?_)
 rintro e w1 ⟨rfl,YV⟩;have VA:Hid (Below w w w1):=SE.o.trans (YV.mono Zo);have Rn:w.heap.size<w1.heap.size:=by have:=YV.size;omega
 have VR:=fun(j:Nat)=>(YV.cell (p:=⟨w,j,none⟩) TQ).trans (ch Gs.o j)
 have x0:w1.cell? ⟨w,0,none⟩=some (.int .i64 5):=VR 0;have x1:w1.cell? ⟨w,1,none⟩=some (.int .i64 p):=VR 1;have x2:w1.cell? ⟨w,2,none⟩=some (.int .i64 n):=VR 2;have x3:w1.cell? ⟨w,3,none⟩=some (.int .i64 la):=VR 3;have x4:w1.cell? ⟨w,4,none⟩=some (.string (str nm)):=VR 4;have x5:w1.cell? ⟨w,5,none⟩=some (.slice sa ss.length sc):=VR 5;have x6:w1.cell? ⟨w,6,none⟩=some (.slice ba bl bc):=VR 6;clear YV VR;go_wp2_with (go_at_call 98;(with_reducible refine(C.o w1 (HR.o.below VA.o)).mono ?_);rintro e w2 ⟨⟨tv,rfl,Sz⟩,UG,Wb⟩)
 go_ret2
 exact U9 HF Sz UG ((Fr.Z8 _ VA.o).trans (Wb.mono Zo (fun _ _ h=>h)))
def mo(b:Nat)(T:ZK)(o:Op)(sa ba:Option Addr)(sc bl bc:Nat)(w:World)(hR:ZI w b T)(Va:T.Small)(hT:Xn w)(UD:o.name.length<9223372036854775807)(Sy:∀x∈T.Zu,x.name.length<9223372036854775807)
  (ZW:XG w (.slice sa o.ZG.length sc) o.ZG.length (bd o.ZG)) (hw:T.XQ o=0) (V9:og T o) (hk:o.kind=8) :
  Calls prog 72 (Qi (some ⟨b,0,none⟩) (Jr o sa o.ZG.length sc ba bl bc)) w (UE b T o w):=by
 have cw:=VV b T o sa ba sc bl bc (w.alloc (.cells (Jr o sa o.ZG.length sc ba bl bc) 32)) (hR.below (Z' _ _)) (Utf8Tabs_below hT (Z' _ _)) UD Sy (ZW.below (Z' _ _));have hb:=hR.lt;have PI:=Zh ZW;have HR:=Zh hR;have LK:=Zh Va;have HF:Hid (T.Wq o=(T.mute o.source true,0)):=by show _=_;unfold ZK.Wq ZK.turns;rw[Z3 (by rw[hw];simp)];simp[hk]
 rw[hw]at cw;have CW:=Zh cw;have Pg:=Zh V9;obtain⟨kd,p,n,la,nm,ss⟩:=o;dsimp only at *;subst hk;have C:=Zh (fun(w1:World) (h:ZI w1 b T)=>mA b T n w1 h Va (V9.src Zi));clear hR Va hT UD Sy ZW cw hw V9;have Gs:=Zh (Z9 w (.cells (Qa 8 p n la (str nm) sa ss.length sc ba bl bc) 32));have EN:=World.size_alloc w (.cells (Qa 8 p n la (str nm) sa ss.length sc ba bl bc) 32);have SE:Hid (Below w w (w.alloc (.cells (Qa 8 p n la (str nm) sa ss.length sc ba bl bc) 32))):=Z' _ _;go_enter func72,ntmps72;go_wp2_with fail
 (with_reducible refine CW.o.mono ?_)
 rintro e w1 ⟨rfl,YV⟩;have VA:Hid (Below w w w1):=SE.o.trans (YV.mono Zo);have Rn:w.heap.size<w1.heap.size:=by have:=YV.size;omega
 have VR:=fun(j:Nat)=>(YV.cell (p:=⟨w,j,none⟩) TQ).trans (ch Gs.o j)
 have x0:w1.cell? ⟨w,0,none⟩=some (.int .i64 8):=VR 0;exact Yx48
def uN(b:Nat)(T:ZK)(o:Op)(sa ba:Option Addr)(sc bl bc:Nat)(w:World)(hR:ZI w b T)(Va:T.Small)(hT:Xn w)(UD:o.name.length<9223372036854775807)(Sy:∀x∈T.Zu,x.name.length<9223372036854775807)
  (ZW:XG w (.slice sa o.ZG.length sc) o.ZG.length (bd o.ZG)) (hw:T.XQ o=0) (V9:og T o) (hk:o.kind=9) :
  Calls prog 72 (Qi (some ⟨b,0,none⟩) (Jr o sa o.ZG.length sc ba bl bc)) w (UE b T o w):=by
 have cw:=VV b T o sa ba sc bl bc (w.alloc (.cells (Jr o sa o.ZG.length sc ba bl bc) 32)) (hR.below (Z' _ _)) (Utf8Tabs_below hT (Z' _ _)) UD Sy (ZW.below (Z' _ _));have hb:=hR.lt;have PI:=Zh ZW;have HR:=Zh hR;have LK:=Zh Va;have HF:Hid (T.Wq o=(T.mute o.source false,0)):=by show _=_;unfold ZK.Wq ZK.turns;rw[Z3 (by rw[hw];simp)];simp[hk]
 rw[hw]at cw;have CW:=Zh cw;have Pg:=Zh V9;obtain⟨kd,p,n,la,nm,ss⟩:=o;dsimp only at *;subst hk;have C:=Zh (fun(w1:World) (h:ZI w1 b T)=>qC b T n w1 h Va (V9.src Zi) (V9.unmute rfl));clear hR Va hT UD Sy ZW cw hw V9;have Gs:=Zh (Z9 w (.cells (Qa 9 p n la (str nm) sa ss.length sc ba bl bc) 32));have EN:=World.size_alloc w (.cells (Qa 9 p n la (str nm) sa ss.length sc ba bl bc) 32);have SE:Hid (Below w w (w.alloc (.cells (Qa 9 p n la (str nm) sa ss.length sc ba bl bc) 32))):=Z' _ _;go_enter func72,ntmps72;go_wp2_with fail
 (with_reducible refine CW.o.mono ?_)
 rintro e w1 ⟨rfl,YV⟩;have VA:Hid (Below w w w1):=SE.o.trans (YV.mono Zo);have Rn:w.heap.size<w1.heap.size:=by have:=YV.size;omega
 have VR:=fun(j:Nat)=>(YV.cell (p:=⟨w,j,none⟩) TQ).trans (ch Gs.o j)
 have x0:w1.cell? ⟨w,0,none⟩=some (.int .i64 9):=VR 0;exact Yx48
def qx(b:Nat)(T:ZK)(o:Op)(sa ba:Option Addr)(sc bl bc:Nat)(w:World)(hR:ZI w b T)(Va:T.Small)(hT:Xn w)(UD:o.name.length<9223372036854775807)(Sy:∀x∈T.Zu,x.name.length<9223372036854775807)
  (ZW:XG w (.slice sa o.ZG.length sc) o.ZG.length (bd o.ZG)) (hw:T.XQ o=0) (V9:og T o) (hk:o.kind=10) :
  Calls prog 72 (Qi (some ⟨b,0,none⟩) (Jr o sa o.ZG.length sc ba bl bc)) w (UE b T o w):=by
 have cw:=VV b T o sa ba sc bl bc (w.alloc (.cells (Jr o sa o.ZG.length sc ba bl bc) 32)) (hR.below (Z' _ _)) (Utf8Tabs_below hT (Z' _ _)) UD Sy (ZW.below (Z' _ _));have hb:=hR.lt;have PI:=Zh ZW;have HR:=Zh hR;have LK:=Zh Va;have HF:Hid (T.Wq o=(T.change o 4,0)):=by show _=_;unfold ZK.Wq ZK.turns;rw[Z3 (by rw[hw];simp)];simp[hk]
 rw[hw]at cw;have CW:=Zh cw;have Pg:=Zh V9;obtain⟨kd,p,n,la,nm,ss⟩:=o;dsimp only at *;subst hk;have C:=Zh (fun(w1:World) (h:ZI w1 b T)=>Aq b T ⟨10,p,n,la,nm,ss⟩ sa ba ss.length sc bl bc w1 h Va (V9.sub Zi) (V9.src Zi) (V9.change 4 (WQ ⟨rfl,rfl⟩)));clear hR Va hT UD Sy ZW cw hw V9;have Gs:=Zh (Z9 w (.cells (Qa 10 p n la (str nm) sa ss.length sc ba bl bc) 32));have EN:=World.size_alloc w (.cells (Qa 10 p n la (str nm) sa ss.length sc ba bl bc) 32);have SE:Hid (Below w w (w.alloc (.cells (Qa 10 p n la (str nm) sa ss.length sc ba bl bc) 32))):=Z' _ _;go_enter func72,ntmps72;go_wp2_with fail
 (with_reducible refine CW.o.mono ?_)
 rintro e w1 ⟨rfl,YV⟩;have VA:Hid (Below w w w1):=SE.o.trans (YV.mono Zo);have Rn:w.heap.size<w1.heap.size:=by have:=YV.size;omega
 have VR:=fun(j:Nat)=>(YV.cell (p:=⟨w,j,none⟩) TQ).trans (ch Gs.o j)
 have x0:w1.cell? ⟨w,0,none⟩=some (.int .i64 10):=VR 0;exact Yx30
def uM(b:Nat)(T:ZK)(o:Op)(sa ba:Option Addr)(sc bl bc:Nat)(w:World)(hR:ZI w b T)(Va:T.Small)(hT:Xn w)(UD:o.name.length<9223372036854775807)(Sy:∀x∈T.Zu,x.name.length<9223372036854775807)
  (ZW:XG w (.slice sa o.ZG.length sc) o.ZG.length (bd o.ZG)) (hw:T.XQ o=0) (V9:og T o) (hk:o.kind=11) :
  Calls prog 72 (Qi (some ⟨b,0,none⟩) (Jr o sa o.ZG.length sc ba bl bc)) w (UE b T o w):=by
 have cw:=VV b T o sa ba sc bl bc (w.alloc (.cells (Jr o sa o.ZG.length sc ba bl bc) 32)) (hR.below (Z' _ _)) (Utf8Tabs_below hT (Z' _ _)) UD Sy (ZW.below (Z' _ _));have hb:=hR.lt;have PI:=Zh ZW;have HR:=Zh hR;have LK:=Zh Va;have HF:Hid (T.Wq o=(T.change o 5,0)):=by show _=_;unfold ZK.Wq ZK.turns;rw[Z3 (by rw[hw];simp)];simp[hk]
 rw[hw]at cw;have CW:=Zh cw;have Pg:=Zh V9;obtain⟨kd,p,n,la,nm,ss⟩:=o;dsimp only at *;subst hk;have C:=Zh (fun(w1:World) (h:ZI w1 b T)=>DU b T ⟨11,p,n,la,nm,ss⟩ sa ba ss.length sc bl bc w1 h Va (V9.sub Zi) (V9.src Zi) (V9.change 5 (WG (WQ ⟨rfl,rfl⟩))));clear hR Va hT UD Sy ZW cw hw V9;have Gs:=Zh (Z9 w (.cells (Qa 11 p n la (str nm) sa ss.length sc ba bl bc) 32));have EN:=World.size_alloc w (.cells (Qa 11 p n la (str nm) sa ss.length sc ba bl bc) 32);have SE:Hid (Below w w (w.alloc (.cells (Qa 11 p n la (str nm) sa ss.length sc ba bl bc) 32))):=Z' _ _;go_enter func72,ntmps72;go_wp2_with fail
 (with_reducible refine CW.o.mono ?_)
 rintro e w1 ⟨rfl,YV⟩;have VA:Hid (Below w w w1):=SE.o.trans (YV.mono Zo);have Rn:w.heap.size<w1.heap.size:=by have:=YV.size;omega
 have VR:=fun(j:Nat)=>(YV.cell (p:=⟨w,j,none⟩) TQ).trans (ch Gs.o j)
 have x0:w1.cell? ⟨w,0,none⟩=some (.int .i64 11):=VR 0;exact Yx30
def mr(b:Nat)(T:ZK)(o:Op)(sa ba:Option Addr)(sc bl bc:Nat)(w:World)(hR:ZI w b T)(Va:T.Small)(hT:Xn w)(UD:o.name.length<9223372036854775807)(Sy:∀x∈T.Zu,x.name.length<9223372036854775807)
  (ZW:XG w (.slice sa o.ZG.length sc) o.ZG.length (bd o.ZG)) (hw:T.XQ o=0) (V9:og T o) (hk:o.kind=12) :
  Calls prog 72 (Qi (some ⟨b,0,none⟩) (Jr o sa o.ZG.length sc ba bl bc)) w (UE b T o w):=by
 have cw:=VV b T o sa ba sc bl bc (w.alloc (.cells (Jr o sa o.ZG.length sc ba bl bc) 32)) (hR.below (Z' _ _)) (Utf8Tabs_below hT (Z' _ _)) UD Sy (ZW.below (Z' _ _));have hb:=hR.lt;have PI:=Zh ZW;have HR:=Zh hR;have LK:=Zh Va;have HF:Hid (T.Wq o=(T.change o 8,0)):=by show _=_;unfold ZK.Wq ZK.turns;rw[Z3 (by rw[hw];simp)];simp[hk]
 rw[hw]at cw;have CW:=Zh cw;have Pg:=Zh V9;obtain⟨kd,p,n,la,nm,ss⟩:=o;dsimp only at *;subst hk;have C:=Zh (fun(w1:World) (h:ZI w1 b T)=>xu b T ⟨12,p,n,la,nm,ss⟩ sa ba ss.length sc bl bc w1 h Va (V9.sub Zi) (V9.src Zi) (V9.change 8 (WG (WG ⟨rfl,rfl⟩))));clear hR Va hT UD Sy ZW cw hw V9;have Gs:=Zh (Z9 w (.cells (Qa 12 p n la (str nm) sa ss.length sc ba bl bc) 32));have EN:=World.size_alloc w (.cells (Qa 12 p n la (str nm) sa ss.length sc ba bl bc) 32);have SE:Hid (Below w w (w.alloc (.cells (Qa 12 p n la (str nm) sa ss.length sc ba bl bc) 32))):=Z' _ _;go_enter func72,ntmps72;go_wp2_with fail
 (with_reducible refine CW.o.mono ?_)
 rintro e w1 ⟨rfl,YV⟩;have VA:Hid (Below w w w1):=SE.o.trans (YV.mono Zo);have Rn:w.heap.size<w1.heap.size:=by have:=YV.size;omega
 have VR:=fun(j:Nat)=>(YV.cell (p:=⟨w,j,none⟩) TQ).trans (ch Gs.o j)
 have x0:w1.cell? ⟨w,0,none⟩=some (.int .i64 12):=VR 0;exact Yx30
def Hc(b:Nat)(T:ZK)(o:Op)(sa ba:Option Addr)(sc bl bc:Nat)(w:World)(hR:ZI w b T)(Va:T.Small)(hT:Xn w)(UD:o.name.length<9223372036854775807)(Sy:∀x∈T.Zu,x.name.length<9223372036854775807)
  (ZW:XG w (.slice sa o.ZG.length sc) o.ZG.length (bd o.ZG)) (hw:T.XQ o=0) (V9:og T o) (hk:o.kind=7) :
  Calls prog 72 (Qi (some ⟨b,0,none⟩) (Jr o sa o.ZG.length sc ba bl bc)) w (UE b T o w):=by
 have cw:=VV b T o sa ba sc bl bc (w.alloc (.cells (Jr o sa o.ZG.length sc ba bl bc) 32)) (hR.below (Z' _ _)) (Utf8Tabs_below hT (Z' _ _)) UD Sy (ZW.below (Z' _ _));have hb:=hR.lt;have PI:=Zh ZW;have HR:=Zh hR;have LK:=Zh Va;have HF:Hid (T.Wq o=(([⟨2,o.peer,o.source,0,0⟩],T.Ww o.peer o.source),0)):=by show _=_;unfold ZK.Wq ZK.turns;rw[Z3 (by rw[hw];simp)];simp[hk]
 rw[hw]at cw;have CW:=Zh cw;have Pg:=Zh V9;obtain⟨kd,p,n,la,nm,ss⟩:=o;dsimp only at *;subst hk;have C:Hid (∀w1,ZI w1 b T→Calls prog 100 (Qv (some ⟨b,0,none⟩) p n) w1 fun e w'=>e = .returned (.agg (Qh 2 p n 0 0))∧ZI w' b (T.Ww p n)∧Fr w1 (· = b) w1 w'):=fun w1 h=>Lh b T p n w1 h Va (V9.sub Zi)
 clear hR Va hT UD Sy ZW cw hw V9;have Gs:=Zh (Z9 w (.cells (Qa 7 p n la (str nm) sa ss.length sc ba bl bc) 32));have EN:=World.size_alloc w (.cells (Qa 7 p n la (str nm) sa ss.length sc ba bl bc) 32);have SE:Hid (Below w w (w.alloc (.cells (Qa 7 p n la (str nm) sa ss.length sc ba bl bc) 32))):=Z' _ _;go_enter func72,ntmps72;go_wp2_with fail
 (with_reducible refine CW.o.mono ?_)
 rintro e w1 ⟨rfl,YV⟩;have VA:Hid (Below w w w1):=SE.o.trans (YV.mono Zo);have Rn:w.heap.size<w1.heap.size:=by have:=YV.size;omega
 have VR:=fun(j:Nat)=>(YV.cell (p:=⟨w,j,none⟩) TQ).trans (ch Gs.o j)
 have x0:w1.cell? ⟨w,0,none⟩=some (.int .i64 7):=VR 0;have x1:w1.cell? ⟨w,1,none⟩=some (.int .i64 p):=VR 1;have x2:w1.cell? ⟨w,2,none⟩=some (.int .i64 n):=VR 2;have x3:w1.cell? ⟨w,3,none⟩=some (.int .i64 la):=VR 3;have x4:w1.cell? ⟨w,4,none⟩=some (.string (str nm)):=VR 4;have x5:w1.cell? ⟨w,5,none⟩=some (.slice sa ss.length sc):=VR 5;have x6:w1.cell? ⟨w,6,none⟩=some (.slice ba bl bc):=VR 6;clear YV VR;go_wp2_with (go_at_call 100;(with_reducible refine(C.o w1 (HR.o.below VA.o)).mono ?_);rintro e w2 ⟨rfl,UG,Wb⟩;have Vb:=Zh UG;have TN:=Zh Wb;have pN:=Wb.size;clear UG Wb)
 go_ret2
 exact U9 HF (Yn _ _ 1 _ ([⟨2,p,n,0,0⟩].flatMap Z7) Zd rfl) (Vb.o.alloc _) (((Fr.Z8 _ VA.o).trans (TN.o.mono Zo (fun _ _ h=>h))).alloc Zo _)
section
variable {P:Program}
def mC{w:World}(t ty:TypeId)(base:Nat){e:TypeId}{size bytes:Nat}(E:Elem P t e size bytes)(v:Value)(n:Nat)(xs:List Value)(Yy:w.ownsRow base e size v n xs)
  (vx:Value) (m:Nat) (news:List Value) (ZW:XG w vx m news) (hl:news.length=m*size) (h1:∀u∈news,u.oneCell'=true)
  (Ue:(n+m)*bytes≤140737488355328) (j5:n+m≤9223372036854775807) (Rz:base≤w.heap.size) :
  ∃v' w',(Builtin.append_ #[t,t] ty #[v,vx]).run P w = .ok v' w'∧w'.ownsRow base e size v' (n+m) (xs++news)∧w.grownBy w' v.ownBlock:=by
 obtain⟨z,Um,g_⟩:=E.info;obtain⟨i,hi,hz,RI,kx⟩:=info_parts Um;obtain⟨ad,cap,hv,_,_,h0,hr⟩:=ZW;subst hv;have tQ:n+m≤maxLen:=by unfold maxLen;omega
 cases ad with
 | none=>
  exact aN
 | some ad=>
  obtain⟨v',w',AY,h2,h3,_⟩:=run_append_own w base t ty e i z size bytes E.ht hi hz RI kx g_ E.pos v n xs Yy ad m cap news hl (by
   intro j u hu;rcases hr with hr|⟨b,off,Ry,Ow,hc⟩
   ·subst hr;simp at hu
   ·cases Ry;have hj:j<news.length:=(List.getElem?_eq_some_iff.1 hu).1;have:=hc j hj;have MC:(⟨b,off,none⟩:Addr).add j=⟨b,off+j,none⟩:=by unfold Addr.add;split <;> simp_all
    rw[MC,this]
    exact hu) h1 tQ Ue Rz
  exact⟨v',w',AY,h2,h3⟩
def QM{ops:Array Oper}{o:Oper}{a:Act}{w:World}{K:Act→World→Prop}{Q:Exit→Act→World→Prop}{E':Prop}(Lt:o.guard=none)(s x:Operand)(t:TypeId)
  (ho:o.op = .call {callee:= .builtin .append,args:=#[s,x],argTypes:=#[t,t]})
  (base:Nat) {e:TypeId} {size bytes:Nat} (E:Elem P t e size bytes)
  (v:Value) (n:Nat) (xs:List Value) (hs:a.eval s=v) (Yy:w.ownsRow base e size v n xs)
  (vx:Value) (m:Nat) (news:List Value) (hx:a.eval x=vx) (ZW:XG w vx m news) (hl:news.length=m*size) (h1:∀u∈news,u.oneCell'=true)
  (Ue:(n+m)*bytes≤140737488355328) (j5:n+m≤9223372036854775807) (Rz:base≤w.heap.size)
  (h:∀v' w',Hid (w'.ownsRow base e size v' (n+m) (xs++news))→Hid (w.grownBy w' v.ownBlock)→K (a.put o.dst v') w') :
  if Region.wanted o (yielded ops a.tmps)=true then Oper.wp P o a w K Q else E':=by
 have hw:Region.wanted o (yielded ops a.tmps)=true:=by simp[Region.wanted,Lt]
 rw[ZU hw];obtain⟨v',w',AY,h2,h3⟩:=mC (P:=P) t o.type base E v n xs Yy vx m news ZW hl h1 Ue j5 Rz;unfold Oper.wp;simp[execOp,ho,resolve,invoke,builtin,hs,hx,AY,Result.andThen];exact h v' w' h2 h3
end
def SU(w:World)(e:TypeId)(n:Nat)(xs:List Value)(hn:n≤maxLen)(v:Value)(hv:v = .slice (some ⟨w,0,none⟩) n n):Row (w.alloc (.cells xs.toArray e)) e v n xs:=by
 subst hv;exact dd w e n xs hn
def Xv{w w':World}(hg:w.grownBy w' (Value.slice none 0 0).ownBlock):Below w w w':=(YE _ _).grown hg (Zq _) (fun k hk=>by cases hk)
def mn(b:Nat)(T:ZK)(o:Op)(sa ba:Option Addr)(sc bl bc:Nat)(w:World)(hR:ZI w b T)(Va:T.Small)(hT:Xn w)(UD:o.name.length<9223372036854775807)(Sy:∀x∈T.Zu,x.name.length<9223372036854775807)
  (ZW:XG w (.slice sa o.ZG.length sc) o.ZG.length (bd o.ZG)) (hw:T.XQ o=0) (V9:og T o) (hk:o.kind=2) :
  Calls prog 72 (Qi (some ⟨b,0,none⟩) (Jr o sa o.ZG.length sc ba bl bc)) w (UE b T o w):=by
 have cw:=VV b T o sa ba sc bl bc (w.alloc (.cells (Jr o sa o.ZG.length sc ba bl bc) 32)) (hR.below (Z' _ _)) (Utf8Tabs_below hT (Z' _ _)) UD Sy (ZW.below (Z' _ _));have hb:=hR.lt;have PI:=Zh ZW;have HR:=Zh hR;have LK:=Zh Va;have HF:Hid (T.Wq o=(([],T.Md ⟨o.peer,o.name⟩),0)):=by show _=_;unfold ZK.Wq ZK.turns;rw[Z3 (by rw[hw];simp)];simp[hk]
 rw[hw]at cw;have CW:=Zh cw;have Pg:=Zh V9;obtain⟨kd,p,n,la,nm,ss⟩:=o;dsimp only at *;subst hk;have yg:=Va.Zu;unfold small at yg;obtain⟨pv,sv,uv,Yh,Xy⟩:=hR.Vm;have UM:=Xy.Zu;obtain⟨a,cap,rfl,Oy,-,-,-⟩:=id UM;have Hh:Hid (∀w',Below w w w'→Row w' 103 (.slice a T.Zu.length cap) T.Zu.length (T.Zu.flatMap Yr)):=fun w' h=>UM.below h
 have zW:=Zh (OM T.Zu);have HC:Hid (∀w',Below w w w'→w'.cell? ⟨b,0,none⟩=some (.slice a T.Zu.length cap)∧w'.frozen? ⟨b,0,none⟩=false):=fun w' h=>⟨(h.cell (p:=⟨b,0,none⟩) hb).trans (ch Yh 0),(h.frozen (p:=⟨b,0,none⟩) hb).trans (hR.Yv 0)⟩
 clear UM Yh Xy;clear hR Va hT UD Sy ZW cw hw V9;have Gs:=Zh (Z9 w (.cells (Qa 2 p n la (str nm) sa ss.length sc ba bl bc) 32));have EN:=World.size_alloc w (.cells (Qa 2 p n la (str nm) sa ss.length sc ba bl bc) 32);have SE:Hid (Below w w (w.alloc (.cells (Qa 2 p n la (str nm) sa ss.length sc ba bl bc) 32))):=Z' _ _;go_enter func72,ntmps72;go_wp2_with fail
 (with_reducible refine CW.o.mono ?_)
 rintro e w1 ⟨rfl,YV⟩;have VA:Hid (Below w w w1):=SE.o.trans (YV.mono Zo);have Rn:w.heap.size<w1.heap.size:=by have:=YV.size;omega
 have VR:=fun(j:Nat)=>(YV.cell (p:=⟨w,j,none⟩) TQ).trans (ch Gs.o j)
 have x0:w1.cell? ⟨w,0,none⟩=some (.int .i64 2):=VR 0;have x1:w1.cell? ⟨w,1,none⟩=some (.int .i64 p):=VR 1;have x2:w1.cell? ⟨w,2,none⟩=some (.int .i64 n):=VR 2;have x3:w1.cell? ⟨w,3,none⟩=some (.int .i64 la):=VR 3;have x4:w1.cell? ⟨w,4,none⟩=some (.string (str nm)):=VR 4;have x5:w1.cell? ⟨w,5,none⟩=some (.slice sa ss.length sc):=VR 5;have x6:w1.cell? ⟨w,6,none⟩=some (.slice ba bl bc):=VR 6;clear YV VR;have Zv:Hid (∀w',Below w1 w1 w'→w'.cell? ⟨b,0,none⟩=some (.slice a T.Zu.length cap)∧w'.frozen? ⟨b,0,none⟩=false∧w'.cell? ⟨w,1,none⟩=some (.int .i64 p)∧w'.cell? ⟨w,4,none⟩=some (.string (str nm))):=fun w' h=>⟨(HC.o _ (VA.o.trans (h.mono Zo))).1,(HC.o _ (VA.o.trans (h.mono Zo))).2,(h.cell (p:=⟨w,1,none⟩) Rn).trans x1,(h.cell (p:=⟨w,4,none⟩) Rn).trans x4⟩
 have R8:Hid (∀w',Below w1 w1 w'→Row w' 103 (.slice a T.Zu.length cap) T.Zu.length (T.Zu.flatMap Yr)):=fun w' h=>Hh.o _ (VA.o.trans (h.mono Zo))
 have dD:Hid (∀w',Below w1 w1 w'→ZI w' b T∧Fr w (· = b) w w'):=fun w' h=>⟨HR.o.below (VA.o.trans (h.mono Zo)),Fr.Z8 _ (VA.o.trans (h.mono Zo))⟩
 have Sr:Hid (∀w',Fr w1 (· = b) w1 w'→w'.cell? ⟨w,1,none⟩=some (.int .i64 p)∧w'.cell? ⟨w,4,none⟩=some (.string (str nm))∧Fr w1 (· = b) w1 w'):=fun w' h=>⟨(h.cell (p:=⟨w,1,none⟩) Rn TQ).trans x1,(h.cell (p:=⟨w,4,none⟩) Rn TQ).trans x4,h⟩
 have Nh:Below w1 w1 w1:=YE _ _;obtain⟨k0,k1,-,-⟩:=Zv.o _ Nh;have hbw1:b<w1.heap.size:=by omega
 have ne1:=World.new_ne w1 ⟨b,0,none⟩ k0;clear Hh HC;go_upto_region 6 with fail
 refine RX ?_;refine wp_region_held_drew (S:=(fun w'=>w'.cell? ⟨w,1,none⟩=some (.int .i64 p)∧w'.cell? ⟨w,4,none⟩=some (.string (str nm))∧Fr w1 (· = b) w1 w')) X6 ?_ (fun _=>?_)
 ·exact Mv
 refine YA 0 (h:=YA 1 (h:=YA 2 (h:=YA 3 (h:=YA 6 (h:=YA 7 (h:=YA 8 (h:=YA 9 (h:=YA 10 (h:=?_)))))))));refine wpAnyH_ready (rs:=[4,11]) X6 Zi ?_;refine AllReadyH.cons (i:=4) rfl (fun K hK=>?_) ?_
 ·go_simp;refine hK.out _ _ ?_ (fun _=>?_)
  ·exact Mv
  clear hK K;try simp only[pt]
  refine wpAnyH_ready (rs:=[5,11]) X6 Zi ?_;refine AllReadyH.cons (i:=5) rfl (fun K hK=>?_) ?_
  ·(first|(go_split_ands;refine Y9 Zr (.const (.slice none 0 0)) (.tmp 23) 47 Zr w1 Tw (.slice none 0 0) 0 [] Zr (TH _ _ _ _) (.slice a T.Zu.length cap) T.Zu.length (T.Zu.flatMap Yr) Zr ?_ zW.o (OO _) Zo Zo ?_ ?_;(exact R8.o _ Wh);(exact Below.size Wh);intro v1 w2 TP N7;have T6:=Xv N7.o;have Yk:Below w1 w1 w2:=Below.call Wh (Zq _) T6;obtain⟨k2,k3,k4,k5⟩:=Zv.o _ Yk)|(go_split_ands;refine Y9 Zr (.tmp 24) (.tmp 30) 47 Zr w1 Tw v1 (0+T.Zu.length) ([]++T.Zu.flatMap Yr) Zr ?_ _ 1 (Q6 p (str nm)) Zr ?_ Zr (Kv ⟨p,nm⟩) Zo Zo ?_ ?_;(repeat(first|with_reducible exact TP.o|with_reducible refine WY ?_|with_reducible refine World.ownsRow.alloc ?_ _));(repeat(first|((with_reducible refine SU _ _ 1 (Q6 p (str nm)) Zd _ ?_);rfl)|with_reducible refine Row.drew ?_|with_reducible refine Row.below ?_ T6));(exact Below.size Wh);intro v2 w3 O5 JL;have V6:Below w1 w1 w3:=Below.grown Wh JL.o (Below.size Wh) (YG TP.o);obtain⟨k6,k7,k8,k9⟩:=Zv.o _ V6;obtain⟨va,vc,hv⟩:=Wl O5.o;subst hv))
   refine hK.out _ _ ?_ (fun _=>?_)
   ·exact Mv
   clear hK K;try simp only[pt]
   refine wpAnyH_ready (rs:=[11]) X6 Zi ?_;refine AllReadyH.cons (i:=11) rfl (fun K hK=>?_) ?_
   ·go_simp;exact Yx6
   exact AllReadyH.nil
  refine AllReadyH.cons (i:=11) rfl (fun K hK=>?_) ?_
  ·exact Yx27
  exact AllReadyH.nil
 refine AllReadyH.cons (i:=11) rfl (fun K hK=>?_) ?_
 ·go_simp;refine hK.out _ _ ?_ (fun _=>?_)
  ·exact Mv
  clear hK K;try simp only[pt]
  refine wpAnyH_ready (rs:=[4]) X6 Zi ?_;refine AllReadyH.cons (i:=4) rfl (fun K hK=>?_) ?_
  ·exact Yx27
  exact AllReadyH.nil
 exact AllReadyH.nil
