/- Part of a proof. -/
import Derived.Test.YtpdjhlcbcomdkaaGreatDoorR14
set_option linter.unusedVariables false
set_option linter.unusedSimpArgs false
set_option maxRecDepth 100000
set_option maxHeartbeats 16000000
open Go Go.Q Go.Qr
namespace Go.Proofs.Rm
open Go.RowKit Go.Proofs.Heap Go.Proofs.Mem
theorem Pk (l:List Vc):(l.flatMap Yx).length=l.length*2:=XG Yx 2 (fun _=>rfl) l
theorem Pm (l:List Vc):∀ u∈l.flatMap Yx,u.oneCell'=true:=by
 intro u hu;obtain ⟨x,_,hx⟩:=List.mem_flatMap.1 hu;exact Li x u hx
theorem xG (b:Nat) (T:ZN) (p:Int) (w:World) (hR:ZL w b T) (Vl:T.Small) (hp:1≤p) (hs:0≤T.XF p) :
  Calls Tryz.prog 97 (Qk (some ⟨b,0,none⟩) p) w fun e w'=>(∃ v,e = .returned v∧YF w' v (T.leave p).1)∧ZL w' b (T.leave p).2∧Fr w (· = b) w w':=by
 have hb:=hR.lt;have HL0:Hid (T.leave p=((ZN.ZM p T 8).1++(ZN.ZI p (ZN.ZM p T 8).2 8).1,(ZN.ZI p (ZN.ZM p T 8).2 8).2.OA p)):=rfl;have HR:=Zh hR;have Mr:=Zh Vl;have IM:=Zh hs;clear hR Vl hs;go_enter Tryz.func97,Tryz.ntmps97;go_wp2;go_loopw [5,6] (fun v i w'=>∃ k:Nat,k≤8∧i = .int .i64 ((k:Int)+1)∧Fr w (· = b) w w'∧ZL w' b (ZN.ZM p T k).2∧w'.ownsRow w 158 5 v (ZN.ZM p T k).1.length ((ZN.ZM p T k).1.flatMap Z9)) (fun _ i _=>9-(intOf i).toNat)
 case atStart=>exact ⟨0,Zo,rfl,Fr.refl _ _ _,HR.o,TY _ _ _ _⟩
 case round=>
  obtain ⟨k,hk,rfl,Wu,UX,YH⟩:=hrel;have T8:=Zh Wu;have Vm:=Zh UX;have Yh:=Zh YH;have TR:=Wu.size;clear Wu UX YH;by_cases UF:k<8
  ·have HS:=Zh (Lm p T k);have Bt:=(Sr p T k).2.2.2;have CA:=Zh (Wv b (ZN.ZM p T k).2 p ((k:Int)+1) wr Vm.o);have hsm2:=(Sr p T k).2.2.1 Mr.o;by_cases h0:0≤(ZN.ZM p T k).2.Y9 p ((k:Int)+1)
   ·have HF:Hid (ZN.ZM p T (k+1)=((ZN.ZM p T k).1++[⟨2,p,(k:Int)+1,0,0⟩],(ZN.ZM p T k).2.WN p ((k:Int)+1))):=by show _=_;rw [HS.o,ZR h0]
    have CE:Hid (∀ w1,Below wr wr w1→Calls Tryz.prog 100 (Qu (some ⟨b,0,none⟩) p ((k:Int)+1)) w1 fun e w'=>e = .returned (.agg (Qh 2 p ((k:Int)+1) 0 0))∧ZL w' b ((ZN.ZM p T k).2.WN p ((k:Int)+1))∧Fr w1 (· = b) w1 w'):=
     fun w1 h=>LY b (ZN.ZM p T k).2 p ((k:Int)+1) w1 (Vm.o.below h) hsm2 h0
    generalize (ZN.ZM p T k).2.Y9 p ((k:Int)+1)=q at *
    generalize ZN.ZM p T k=G at *
    go_wp2_with (first|(go_at_call 51;(with_reducible refine CA.o.mono ?_);rintro e w1 ⟨rfl,YY⟩;have V6:=Zh YY;have RX:=YY.size;clear YY)|(go_at_call 100;(with_reducible refine (CE.o _ V6.o).mono ?_);rintro e w2 ⟨rfl,Pb,Sb⟩;have yY:=Zh Pb;have T4:=Zh Sb;have sJ:=Sb.size;clear Pb Sb)|(at_builtin;refine YV rfl (.tmp 18) (.tmp 23) 98 rfl w.heap.size XM _ G.1.length (G.1.flatMap Z9) rfl ?a1 _ 1 ([⟨2,p,(k:Int)+1,0,0⟩].flatMap Z9) rfl ?a2 rfl ?a4 ?a5 ?a6 ?a7 (fun v' w3 HO HG=>?_)))
    case a1=>exact (WG (Zx Yh.o V6.o) T4.o (fun k hk=>by omega)).alloc _
    case a2=>exact Yr _ _ 1 _ ([⟨2,p,(k:Int)+1,0,0⟩].flatMap Z9) Zd rfl
    case a4=>exact X_ _
    case a5=>omega
    case a6=>omega
    case a7=>simp;omega
    go_roundw
    case rel=>
     have Sc:=(WG (Zx Yh.o V6.o) T4.o (fun k hk=>by omega)).alloc (.cells ([⟨2,p,(k:Int)+1,0,0⟩].flatMap Z9).toArray 158);have W8:=Z' w2 (.cells ([⟨2,p,(k:Int)+1,0,0⟩].flatMap Z9).toArray 158);refine ⟨k+1,Zo,Zn,?_,?_,?_⟩
     ·have h2:=T8.o.trans ((Fr.Z7 (· = b) V6.o).mono Zo (fun _ _ h=>h));have h3:=h2.trans (T4.o.mono Zo (fun _ _ h=>h));exact (h3.alloc Zo _).grown HG.o Ug (YL Yh.o)
     ·rw [HF.o];exact ZL.grown (yY.o.below W8) Sc HG.o hb
     ·rw [HF.o];dsimp only;rw [UE,OQ];exact HO.o
    case measure=>simp [intOf];omega
   ·have HF:Hid (ZN.ZM p T (k+1)=ZN.ZM p T k):=by show _=_;rw [HS.o,Z4 h0]
    have h0':decide (0≤(ZN.ZM p T k).2.Y9 p ((k:Int)+1))=false:=WI h0;generalize (ZN.ZM p T k).2.Y9 p ((k:Int)+1)=q at *
    generalize ZN.ZM p T k=G at *
    go_wp2_with (go_at_call 51;(with_reducible refine CA.o.mono ?_);rintro e w1 ⟨rfl,YY⟩)
    go_roundw
    case rel=>exact ⟨k+1,Zo,Zn,T8.o.trans ((Fr.Z7 (· = b) YY).mono TR (fun _ _ h=>h)),by rw [HF.o];exact Vm.o.below YY,by rw [HF.o];exact Zx Yh.o YY⟩
    case measure=>simp [intOf];omega
  ·obtain rfl:k=8:=by omega
   have hlf:=Sr p T 8;have Bt:=hlf.2.2.2;have mB:=Zh (hlf.2.2.1 Mr.o);have HPE:=Zh hlf.2.1;have ud:Hid (∀ k,ZN.ZI p (ZN.ZM p T 8).2 (k+1)=if (ZN.ZI p (ZN.ZM p T 8).2 k).2.owner ((k:Int)+1)=p then ((ZN.ZI p (ZN.ZM p T 8).2 k).1++((ZN.ZI p (ZN.ZM p T 8).2 k).2.Yo ((k:Int)+1)).1,((ZN.ZI p (ZN.ZM p T 8).2 k).2.Yo ((k:Int)+1)).2) else ZN.ZI p (ZN.ZM p T 8).2 k):=fun k=>Lp p _ k
   have HLF:Hid (∀ k,(ZN.ZI p (ZN.ZM p T 8).2 k).2.ZA=(ZN.ZM p T 8).2.ZA∧(ZN.ZI p (ZN.ZM p T 8).2 k).2.Small∧(ZN.ZI p (ZN.ZM p T 8).2 k).1.length≤k*16):=fun k=>⟨(Ss p _ k).1,(Ss p _ k).2.1 mB.o,(Ss p _ k).2.2⟩
   have vz:Hid (ZN.ZI p (ZN.ZM p T 8).2 0=([],(ZN.ZM p T 8).2)):=rfl;clear hlf;generalize ZN.ZM p T 8=X at *
   obtain ⟨wo,rfl⟩:∃ wo:World,wo=wr:=⟨_,rfl⟩;go_wp2_with fail
   go_loopw [5,7] (fun v i w'=>∃ k:Nat,k≤8∧i = .int .i64 ((k:Int)+1)∧Fr w (· = b) w w'∧ZL w' b (ZN.ZI p X.2 k).2∧w'.ownsRow w 158 5 v (X.1++(ZN.ZI p X.2 k).1).length ((X.1++(ZN.ZI p X.2 k).1).flatMap Z9)) (fun _ i _=>9-(intOf i).toNat)
   case atStart=>exact ⟨0,Zo,rfl,T8.o,by rw [vz.o];exact Vm.o,by rw [vz.o,um];exact Yh.o⟩
   case round=>
    obtain ⟨k,hk,rfl,Wu,UX,YH⟩:=hrel;clear T8 Vm Yh vz TR;have T8:=Zh Wu;have Vm:=Zh UX;have Yh:=Zh YH;have TR:=Wu.size;clear Wu UX YH;by_cases UF:k<8
    ·have HS:=Zh (ud.o k);have HGL2:=(HLF.o k).2.2;have HGN:=Mv (ZN.ZI p X.2 k).2 ((k:Int)+1);have CO:=Zh (Re b (ZN.ZI p X.2 k).2 ((k:Int)+1) wr Vm.o);by_cases ho:(ZN.ZI p X.2 k).2.owner ((k:Int)+1)=p
     ·have HF:Hid (ZN.ZI p X.2 (k+1)=((ZN.ZI p X.2 k).1++((ZN.ZI p X.2 k).2.Yo ((k:Int)+1)).1,((ZN.ZI p X.2 k).2.Yo ((k:Int)+1)).2)):=by show _=_;rw [HS.o,ZR ho]
      have CG:Hid (∀ w1,Below wr wr w1→Calls Tryz.prog 98 (Qk (some ⟨b,0,none⟩) ((k:Int)+1)) w1 fun e w'=>(∃ v,e = .returned v∧YF w' v ((ZN.ZI p X.2 k).2.Yo ((k:Int)+1)).1)∧ZL w' b ((ZN.ZI p X.2 k).2.Yo ((k:Int)+1)).2∧Fr w1 (· = b) w1 w'):=
       fun w1 h=>PD b (ZN.ZI p X.2 k).2 ((k:Int)+1) w1 (Vm.o.below h) (HLF.o k).2.1 (sY Zo ho)
      rw [ho] at CO;clear ho;generalize (ZN.ZI p X.2 k).2.Yo ((k:Int)+1)=Y at *
      generalize ZN.ZI p X.2 k=G at *
      go_wp2_with (first|(go_at_call 75;(with_reducible refine CO.o.mono ?_);rintro e w1 ⟨rfl,YY⟩;have V6:=Zh YY;have RX:=YY.size;clear YY)|(go_at_call 98;(with_reducible refine (CG.o _ V6.o).mono ?_);rintro e w2 ⟨⟨tv,rfl,S3⟩,Pb,Sb⟩;have FK:=Zh S3;have yY:=Zh Pb;have T4:=Zh Sb;have sJ:=Sb.size;clear Pb Sb S3)|(at_builtin;refine YV rfl (.tmp 34) (.tmp 37) 98 rfl w.heap.size XM _ (X.1++G.1).length ((X.1++G.1).flatMap Z9) rfl ?b1 _ Y.1.length (Y.1.flatMap Z9) rfl ?b2 ?b3 ?b4 ?b5 ?b6 ?b7 (fun v' w3 HO HG=>?_)))
      case b1=>exact WG (Zx Yh.o V6.o) T4.o (fun k hk=>by omega)
      case b2=>exact FK.o
      case b3=>exact VT _
      case b4=>exact X_ _
      case b5=>simp;omega
      case b6=>simp;omega
      case b7=>omega
      go_roundw
      case rel=>
       repeat apply Exists.intro
       refine ⟨⟨k+1,Zo,Zn,?_,?_,?_⟩,rfl⟩
       ·have h2:=T8.o.trans ((Fr.Z7 (· = b) V6.o).mono Zo (fun _ _ h=>h));have h3:=h2.trans (T4.o.mono Zo (fun _ _ h=>h));exact h3.grown HG.o Zo (YL Yh.o)
       ·rw [HF.o];exact ZL.grown yY.o (WG (Zx Yh.o V6.o) T4.o (fun k hk=>by omega)) HG.o hb
       ·rw [HF.o];dsimp only;rw [←gb,UE,OQ];exact HO.o
      case measure=>simp [intOf];omega
     ·have HF:Hid (ZN.ZI p X.2 (k+1)=ZN.ZI p X.2 k):=by show _=_;rw [HS.o,Z4 ho]
      have uE:((ZN.ZI p X.2 k).2.owner ((k:Int)+1) == p)=false:=by rw [WR];exact ho
      clear ho;generalize (ZN.ZI p X.2 k).2.owner ((k:Int)+1)=q at *
      generalize ZN.ZI p X.2 k=G at *
      go_wp2_with (go_at_call 75;(with_reducible refine CO.o.mono ?_);rintro e w1 ⟨rfl,YY⟩)
      go_roundw
      case rel=>
       repeat apply Exists.intro
       exact ⟨⟨k+1,Zo,Zn,T8.o.trans ((Fr.Z7 (· = b) YY).mono TR (fun _ _ h=>h)),by rw [HF.o];exact Vm.o.below YY,by rw [HF.o];exact Zx Yh.o YY⟩,rfl⟩
      case measure=>simp [intOf];omega
    ·obtain rfl:k=8:=by omega
     obtain ⟨hpe,hsm3,-⟩:=HLF.o 8;rw [HPE.o] at hpe;clear ud HLF HPE mB;generalize ZN.ZI p X.2 8=G at *
     have kv:0≤G.2.XF p:=by rw [G3,hpe,←G3];exact IM.o
     obtain ⟨m,hm,O8,-,-⟩:=XI kv;have O8:G.2.XF p=m:=O8;have cb:=SA b G.2 p wr Vm.o;rw [O8] at cb;have CB:=Zh cb;have HE:Hid (G.2.OA p={G.2 with ZA:=G.2.ZA.take m++G.2.ZA.drop (m+1)}):=by show _=_;unfold ZN.OA;rw [O8,Wz,List.eraseIdx_eq_take_drop_succ]
     have Uw:=hsm3.ZA;unfold small at Uw;clear cb O8 kv hsm3 hpe;go_wp2_with fail
     (with_reducible refine CB.o.mono ?_)
     rintro e V ⟨rfl,NJ⟩;have MN:=Zh (Vm.o.below NJ);have HFV:Hid (Fr w (· = b) w V):=T8.o.trans ((Fr.Z7 _ NJ).mono TR (fun _ _ h=>h));have a_:=Zh (Zx Yh.o NJ);have sK:w.heap.size≤V.heap.size:=PO TR NJ.size;clear NJ CB;obtain ⟨pv,sv,uv,Yn,XJ⟩:=MN.o.Vw;have Sd:=XJ.ZA;obtain ⟨a,cap,rfl,O9,wq,-,-⟩:=id Sd;obtain ⟨a1,run1,AK,-⟩:=Sp TQ a G.2.ZA.length cap m Zo;obtain ⟨a2,pV,AL,-⟩:=SP TQ a G.2.ZA.length cap (m+1) Zo O9;rw [show (((m+1:Nat):Int))=(m:Int)+1 by omega] at pV
     have y_:Hid (∀ w',Below V V w'→Row w' 103 (.slice a1 m cap) m ((G.2.ZA.take m).flatMap Yx)):=fun w' h=>by
      have:=AK w' _ Zo (Pk _) (Sd.below h)
      rwa [J8 Yx 2 (fun _=>rfl)] at this
     have DG:Hid (∀ w',Below V V w'→Row w' 103 (.slice a2 (G.2.ZA.length-(m+1)) (cap-(m+1))) (G.2.ZA.length-(m+1)) ((G.2.ZA.drop (m+1)).flatMap Yx)):=fun w' h=>by
      have:=AL w' _ (Pk _) (Sd.below h)
      rwa [J7 Yx 2 (fun _=>rfl)] at this
     have FX:Hid (((G.2.ZA.take m).flatMap Yx).length=m*2):=by show _=_;rw [Pk,S4,Nat.min_eq_left Zo]
     have ud:Hid (((G.2.ZA.drop (m+1)).flatMap Yx).length=(G.2.ZA.length-(m+1))*2):=by show _=_;rw [Pk,Rg]
     have HL3:Hid ((G.2.ZA.take m++G.2.ZA.drop (m+1)).length=m+(G.2.ZA.length-(m+1))):=by show _=_;rw [UE,S4,Rg,Nat.min_eq_left Zo]
     have HC:Hid (∀ w',Below V V w'→w'.cell? ⟨b,0,none⟩=some (.slice a G.2.ZA.length cap)):=fun w' h=>(h.cell (p:=⟨b,0,none⟩) T_).trans (cell_of Yn 0)
     have Kb:=MN.o.Yz 0;have HFZ:Hid (∀ w',Below V V w'→w'.frozen? ⟨b,0,none⟩=false):=fun w' h=>(h.frozen (p:=⟨b,0,none⟩) T_).trans Kb
     have wF:m+1≤G.2.ZA.length:=hm;have lG:IntKind.i64.wrap ((m:Int)+1)=(m:Int)+1:=Tm _ Zo;have j0:=HC.o V (YJ _ _);have NT:Below V V V:=YJ _ _;clear Kb XJ Yn Sd AK AL hm;generalize G.2.ZA.length=N at *
     go_wp2_with fail
     go_region_law (first|(refine Zp Zr (.const (.slice none 0 0)) (.tmp 48) 47 Zr V.heap.size TQ (.slice none 0 0) 0 [] Zr (TY _ _ _ _) (.slice a1 m cap) m ((G.2.ZA.take m).flatMap Yx) Zr ?_ FX.o (Pm _) Zo Zo ?_ ?_;(exact y_.o _ DM);(exact Below.size DM);intro v1 w2 T9 OH;have Yq:Below V V w2:=Below.grown DM OH.o (Below.size DM) (YL (TY V _ 103 2));have c2:=HC.o _ Yq)|(refine Zp Zr (.tmp 49) (.tmp 56) 47 Zr V.heap.size TQ v1 (0+m) ([]++(G.2.ZA.take m).flatMap Yx) Zr ?_ (.slice a2 (N-(m+1)) (cap-(m+1))) (N-(m+1)) ((G.2.ZA.drop (m+1)).flatMap Yx) Zr ?_ ud.o (Pm _) Zo Zo ?_ ?_;(first|exact T9.o|exact Xd T9.o);(exact DG.o _ DM);(exact Below.size DM);intro v2 w3 Px KF;have Wn:Below V V w3:=Below.grown DM KF.o (Below.size DM) (YL T9.o);have c3:=HC.o _ Wn;have f3:=HFZ.o _ Wn;obtain ⟨va,vc,hv⟩:=WE Px.o;subst hv))
     all_goals
      go_wp2;go_ret;have ZY:=Row.Z6 Px.o;rw [J2,←OQ,QD] at ZY;have Fh:ZL w3 b G.2:=MN.o.below Wn;have Np:m+(N-(m+1))=(G.2.ZA.take m++G.2.ZA.drop (m+1)).length:=by rw [HL3.o]
      rw [Np] at ZY;have z_:=Fh.AW ZY;rw [←Np] at z_;refine ⟨⟨_,rfl,?_⟩,?_,?_⟩
      ·rw [HL0.o];exact (((Row.Z6 a_.o).below Wn).fr ((Fr.refl w3.heap.size (· = b) w3).setAt _ _) (Zw _) (Fh.FO Zd))
      ·rw [HL0.o];dsimp only;rw [HE.o];exact z_
      ·exact (HFV.o.trans ((Fr.Z7 _ Wn).mono sK (fun _ _ h=>h))).setAt _ _
theorem tB (b:Nat) (T:ZN) (p x:Int) (w:World) (hR:ZL w b T) (Vl:T.Small) :
  Calls Tryz.prog 104 (Ja (some ⟨b,0,none⟩) p x) w fun e w'=>(∃ v,e = .returned (.tuple #[v,.int .i64 (T.YS p x).2])∧YF w' v (T.YS p x).1.1)∧ZL w' b (T.YS p x).1.2∧Fr w (· = b) w w':=by
 have CO:=Zh (fun (w1:World) (h:Below w w w1)=>M6 b T x w1 (hR.below h));have CP:=Zh (fun (w1:World) (h:Below w w w1)=>SA b T p w1 (hR.below h));have CW:=Zh (fun (w1:World) (h:Below w w w1)=>Re b T (T.of x).1 w1 (hR.below h));have CE:=Zh (fun (w1:World) (h:Below w w w1) (hs:0≤T.YU (T.of x).1)=>PD b T (T.of x).1 w1 (hR.below h) Vl hs);have HG:Hid (T.YS p x=if !(T.of x).2.2 || decide (T.XF p<0) || decide (T.owner (T.of x).1≠p) then (([],T),8) else (T.Yo (T.of x).1,0)):=rfl;have HR:=Zh hR
 have E3:Hid ((T.of x).2.2=true→0≤T.YU (T.of x).1):=fun h=>by
  unfold ZN.of at h ⊢;by_cases hh:T.RH x<0
  ·rw [ZR hh] at h;cases h
  ·rw [Z4 hh];obtain ⟨k,hk,R5,-,-⟩:=XI (show 0≤T.RH x by omega);have R5:T.RH x=k:=R5;dsimp only;rw [R5,Wz,Kr,SC,Vb hk];exact ⟨T.Yg[k],PA hk,rfl⟩
 clear hR Vl;generalize T.YS p x=gv at *
 generalize T.of x=O at *
 obtain ⟨o1,o2,o3⟩:=O;dsimp only at *
 generalize T.XF p=pa at *
 generalize T.owner o1=ow at *
 cases o3
 ·have HF:Hid (gv=(([],T),8)):=by show _=_;rw [HG.o];rfl
  go_enter Tryz.func104,Tryz.ntmps104;go_wp2_with (go_at_call 74;(with_reducible refine (CO.o _ (YJ _ _)).mono ?_);rintro e w1 ⟨rfl,YY⟩)
  go_ret2
  rw [HF.o];exact ⟨⟨_,rfl,Row.nil _ _⟩,HR.o.below YY,Fr.Z7 _ YY⟩
 ·have hs:=E3.o rfl;by_cases h1:pa<0
  ·have HF:Hid (gv=(([],T),8)):=by show _=_;rw [HG.o,Wi h1];rfl
   go_enter Tryz.func104,Tryz.ntmps104;go_wp2_with (first|(go_at_call 74;(with_reducible refine (CO.o _ (YJ _ _)).mono ?_);rintro e w1 ⟨rfl,YY⟩)|(go_at_call 48;(with_reducible refine (CP.o _ YY).mono ?_);rintro e w2 ⟨rfl,Y7⟩))
   go_ret2
   rw [HF.o];have hb:=YY.trans (Y7.mono YY.size);exact ⟨⟨_,rfl,Row.nil _ _⟩,HR.o.below hb,Fr.Z7 _ hb⟩
  have h1p:0≤pa:=by omega
  have h1d:decide (pa<0)=false:=WI h1;by_cases h2:ow=p
  ·subst h2;have HF:Hid (gv=(T.Yo o1,0)):=by show _=_;rw [HG.o,h1d];simp
   generalize T.Yo o1=Y at *
   go_enter Tryz.func104,Tryz.ntmps104;go_wp2_with (first|(go_at_call 74;(with_reducible refine (CO.o _ (YJ _ _)).mono ?_);rintro e w1 ⟨rfl,YY⟩)|(go_at_call 48;(with_reducible refine (CP.o _ YY).mono ?_);rintro e w2 ⟨rfl,Y7⟩;have J_:=YY.trans (Y7.mono YY.size))|(go_at_call 75;(with_reducible refine (CW.o _ J_).mono ?_);rintro e w3 ⟨rfl,VJ⟩;have Eb:=J_.trans (VJ.mono J_.size))|(go_at_call 98;(with_reducible refine (CE.o _ Eb hs).mono ?_);rintro e w4 ⟨⟨tv,rfl,S3⟩,UX,Wu⟩))
   go_ret2
   rw [HF.o];exact ⟨⟨_,rfl,S3⟩,UX,(Fr.Z7 _ Eb).trans (Wu.mono Eb.size (fun _ _ h=>h))⟩
  ·have HF:Hid (gv=(([],T),8)):=by show _=_;rw [HG.o,h1d];simp [h2]
   have uE:(ow == p)=false:=by rw [WR];exact h2
   have hbq2:(ow != p)=true:=by rw [bne,uE];rfl
   go_enter Tryz.func104,Tryz.ntmps104;go_wp2_with (first|(go_at_call 74;(with_reducible refine (CO.o _ (YJ _ _)).mono ?_);rintro e w1 ⟨rfl,YY⟩)|(go_at_call 48;(with_reducible refine (CP.o _ YY).mono ?_);rintro e w2 ⟨rfl,Y7⟩;have J_:=YY.trans (Y7.mono YY.size))|(go_at_call 75;(with_reducible refine (CW.o _ J_).mono ?_);rintro e w3 ⟨rfl,VJ⟩;have Eb:=J_.trans (VJ.mono J_.size)))
   go_ret2
   rw [HF.o];exact ⟨⟨_,rfl,Row.nil _ _⟩,HR.o.below Eb,Fr.Z7 _ Eb⟩
end Go.Proofs.Rm
