/- Part of a proof. -/
import Derived.Test.YtpdjhlcbcomdkaaGreatDoorW14
set_option linter.unusedVariables false
set_option linter.unusedSimpArgs false
set_option maxRecDepth 100000
set_option maxHeartbeats 16000000
open Go Go.Q Go.Qr
namespace Go.Proofs.Rm
open Go.RowKit Go.Proofs.Heap Go.Proofs.Mem
theorem PD (l:List Vk):(l.flatMap Yz).length=l.length*2:=XK Yz 2 (fun _=>rfl) l
theorem PE (l:List Vk):∀ u∈l.flatMap Yz,u.oneCell'=true:=by
 intro u hu
 obtain ⟨x,_,hx⟩:=List.mem_flatMap.1 hu
 exact LF x u hx
theorem xY (b:Nat) (T:ZN) (p:Int) (w:World) (hR:ZL w b T) (Vq:T.Small) (hp:1≤p) (hs:0≤T.XI p) :
  Calls Tryz.prog 97 (Qj (some ⟨b,0,none⟩) p) w fun e w'=>(∃ v,e = .returned v∧YG w' v (T.leave p).1)∧ZL w' b (T.leave p).2∧Fr w (· = b) w w':=by
 have hb:=hR.lt
 have ax:Hid (T.leave p=((ZN.ZM p T 8).1++(ZN.ZI p (ZN.ZM p T 8).2 8).1,(ZN.ZI p (ZN.ZM p T 8).2 8).2.OW p)):=rfl
 have HR:=Zh hR
 have MF:=Zh Vq
 have I3:=Zh hs
 clear hR Vq hs
 go_enter Tryz.func97,Tryz.ntmps97
 go_wp2
 go_loopw [5,6] (fun v i w'=>∃ k:Nat,k≤8∧i = .int .i64 ((k:Int)+1)∧Fr w (· = b) w w'∧ZL w' b (ZN.ZM p T k).2∧w'.ownsRow w 158 5 v (ZN.ZM p T k).1.length ((ZN.ZM p T k).1.flatMap Z9)) (fun _ i _=>9-(intOf i).toNat)
 case atStart=>exact ⟨0,Zo,rfl,Fr.refl _ _ _,HR.o,Ua _ _ _ _⟩
 case round=>
  obtain ⟨k,hk,rfl,Wx,U3,YJ⟩:=hrel
  have Uh:=Zh Wx
  have Vr:=Zh U3
  have Yl:=Zh YJ
  have T5:=Wx.size
  clear Wx U3 YJ
  by_cases UN:k<8
  ·have HS:=Zh (LJ p T k)
   have BN:=(SC p T k).2.2.2
   have CA:=Zh (Wy b (ZN.ZM p T k).2 p ((k:Int)+1) wr Vr.o)
   have hsm2:=(SC p T k).2.2.1 MF.o
   by_cases h0:0≤(ZN.ZM p T k).2.Zb p ((k:Int)+1)
   ·have HF:Hid (ZN.ZM p T (k+1)=((ZN.ZM p T k).1++[⟨2,p,(k:Int)+1,0,0⟩],(ZN.ZM p T k).2.WR p ((k:Int)+1))):=by show _=_;rw [HS.o,ZQ h0]
    have CE:Hid (∀ w1,Below wr wr w1→Calls Tryz.prog 100 (Qs (some ⟨b,0,none⟩) p ((k:Int)+1)) w1 fun e w'=>e = .returned (.agg (Qh 2 p ((k:Int)+1) 0 0))∧ZL w' b ((ZN.ZM p T k).2.WR p ((k:Int)+1))∧Fr w1 (· = b) w1 w'):=
     fun w1 h=>Mh b (ZN.ZM p T k).2 p ((k:Int)+1) w1 (Vr.o.below h) hsm2 h0
    generalize (ZN.ZM p T k).2.Zb p ((k:Int)+1)=q at *
    generalize ZN.ZM p T k=G at *
    go_wp2_with (first|(go_at_call 51;(with_reducible refine CA.o.mono ?_);rintro e w1 ⟨rfl,YZ⟩;have VQ:=Zh YZ;have R_:=YZ.size;clear YZ)|(go_at_call 100;(with_reducible refine (CE.o _ VQ.o).mono ?_);rintro e w2 ⟨rfl,Ps,Sm⟩;have zC:=Zh Ps;have Ud:=Zh Sm;have tD:=Sm.size;clear Ps Sm)|(at_builtin;refine YV rfl (.tmp 18) (.tmp 23) 98 rfl w.heap.size XP _ G.1.length (G.1.flatMap Z9) rfl ?a1 _ 1 ([⟨2,p,(k:Int)+1,0,0⟩].flatMap Z9) rfl ?a2 rfl ?a4 ?a5 ?a6 ?a7 (fun v' w3 HO HG=>?_)))
    case a1=>exact (WJ (Zy Yl.o VQ.o) Ud.o (fun k hk=>by omega)).alloc _
    case a2=>exact Yu _ _ 1 _ ([⟨2,p,(k:Int)+1,0,0⟩].flatMap Z9) Zd rfl
    case a4=>exact Yc _
    case a5=>omega
    case a6=>omega
    case a7=>simp;omega
    go_roundw
    case rel=>
     have Sn:=(WJ (Zy Yl.o VQ.o) Ud.o (fun k hk=>by omega)).alloc (.cells ([⟨2,p,(k:Int)+1,0,0⟩].flatMap Z9).toArray 158)
     have W9:=Z' w2 (.cells ([⟨2,p,(k:Int)+1,0,0⟩].flatMap Z9).toArray 158)
     refine ⟨k+1,Zo,Zn,?_,?_,?_⟩
     ·have h2:=Uh.o.trans ((Fr.Z8 (· = b) VQ.o).mono Zo (fun _ _ h=>h))
      have h3:=h2.trans (Ud.o.mono Zo (fun _ _ h=>h))
      exact (h3.alloc Zo _).grown HG.o Uq (YL Yl.o)
     ·rw [HF.o]
      exact ZL.grown (zC.o.below W9) Sn HG.o hb
     ·rw [HF.o]
      dsimp only
      rw [UM,O_]
      exact HO.o
    case measure=>simp [intOf];omega
   ·have HF:Hid (ZN.ZM p T (k+1)=ZN.ZM p T k):=by show _=_;rw [HS.o,Z4 h0]
    have h0':decide (0≤(ZN.ZM p T k).2.Zb p ((k:Int)+1))=false:=WB h0
    generalize (ZN.ZM p T k).2.Zb p ((k:Int)+1)=q at *
    generalize ZN.ZM p T k=G at *
    go_wp2_with (go_at_call 51;(with_reducible refine CA.o.mono ?_);rintro e w1 ⟨rfl,YZ⟩)
    go_roundw
    case rel=>exact ⟨k+1,Zo,Zn,Uh.o.trans ((Fr.Z8 (· = b) YZ).mono T5 (fun _ _ h=>h)),by rw [HF.o];exact Vr.o.below YZ,by rw [HF.o];exact Zy Yl.o YZ⟩
    case measure=>simp [intOf];omega
  ·obtain rfl:k=8:=by omega
   have hlf:=SC p T 8
   have BN:=hlf.2.2.2
   have ni:=Zh (hlf.2.2.1 MF.o)
   have HPE:=Zh hlf.2.1
   have uD:Hid (∀ k,ZN.ZI p (ZN.ZM p T 8).2 (k+1)=if (ZN.ZI p (ZN.ZM p T 8).2 k).2.owner ((k:Int)+1)=p then ((ZN.ZI p (ZN.ZM p T 8).2 k).1++((ZN.ZI p (ZN.ZM p T 8).2 k).2.Yq ((k:Int)+1)).1,((ZN.ZI p (ZN.ZM p T 8).2 k).2.Yq ((k:Int)+1)).2) else ZN.ZI p (ZN.ZM p T 8).2 k):=fun k=>LK p _ k
   have HLF:Hid (∀ k,(ZN.ZI p (ZN.ZM p T 8).2 k).2.ZA=(ZN.ZM p T 8).2.ZA∧(ZN.ZI p (ZN.ZM p T 8).2 k).2.Small∧(ZN.ZI p (ZN.ZM p T 8).2 k).1.length≤k*16):=fun k=>⟨(SD p _ k).1,(SD p _ k).2.1 ni.o,(SD p _ k).2.2⟩
   have vR:Hid (ZN.ZI p (ZN.ZM p T 8).2 0=([],(ZN.ZM p T 8).2)):=rfl
   clear hlf
   generalize ZN.ZM p T 8=X at *
   obtain ⟨wo,rfl⟩:∃ wo:World,wo=wr:=⟨_,rfl⟩
   go_wp2_with fail
   go_loopw [5,7] (fun v i w'=>∃ k:Nat,k≤8∧i = .int .i64 ((k:Int)+1)∧Fr w (· = b) w w'∧ZL w' b (ZN.ZI p X.2 k).2∧w'.ownsRow w 158 5 v (X.1++(ZN.ZI p X.2 k).1).length ((X.1++(ZN.ZI p X.2 k).1).flatMap Z9)) (fun _ i _=>9-(intOf i).toNat)
   case atStart=>exact ⟨0,Zo,rfl,Uh.o,by rw [vR.o];exact Vr.o,by rw [vR.o,wC];exact Yl.o⟩
   case round=>
    obtain ⟨k,hk,rfl,Wx,U3,YJ⟩:=hrel
    clear Uh Vr Yl vR T5
    have Uh:=Zh Wx
    have Vr:=Zh U3
    have Yl:=Zh YJ
    have T5:=Wx.size
    clear Wx U3 YJ
    by_cases UN:k<8
    ·have HS:=Zh (uD.o k)
     have HGL2:=(HLF.o k).2.2
     have HGN:=MJ (ZN.ZI p X.2 k).2 ((k:Int)+1)
     have CO:=Zh (Rv b (ZN.ZI p X.2 k).2 ((k:Int)+1) wr Vr.o)
     by_cases ho:(ZN.ZI p X.2 k).2.owner ((k:Int)+1)=p
     ·have HF:Hid (ZN.ZI p X.2 (k+1)=((ZN.ZI p X.2 k).1++((ZN.ZI p X.2 k).2.Yq ((k:Int)+1)).1,((ZN.ZI p X.2 k).2.Yq ((k:Int)+1)).2)):=by show _=_;rw [HS.o,ZQ ho]
      have CG:Hid (∀ w1,Below wr wr w1→Calls Tryz.prog 98 (Qj (some ⟨b,0,none⟩) ((k:Int)+1)) w1 fun e w'=>(∃ v,e = .returned v∧YG w' v ((ZN.ZI p X.2 k).2.Yq ((k:Int)+1)).1)∧ZL w' b ((ZN.ZI p X.2 k).2.Yq ((k:Int)+1)).2∧Fr w1 (· = b) w1 w'):=
       fun w1 h=>PZ b (ZN.ZI p X.2 k).2 ((k:Int)+1) w1 (Vr.o.below h) (HLF.o k).2.1 (tP Zo ho)
      rw [ho] at CO
      clear ho
      generalize (ZN.ZI p X.2 k).2.Yq ((k:Int)+1)=Y at *
      generalize ZN.ZI p X.2 k=G at *
      go_wp2_with (first|(go_at_call 75;(with_reducible refine CO.o.mono ?_);rintro e w1 ⟨rfl,YZ⟩;have VQ:=Zh YZ;have R_:=YZ.size;clear YZ)|(go_at_call 98;(with_reducible refine (CG.o _ VQ.o).mono ?_);rintro e w2 ⟨⟨tv,rfl,S8⟩,Ps,Sm⟩;have F4:=Zh S8;have zC:=Zh Ps;have Ud:=Zh Sm;have tD:=Sm.size;clear Ps Sm S8)|(at_builtin;refine YV rfl (.tmp 34) (.tmp 37) 98 rfl w.heap.size XP _ (X.1++G.1).length ((X.1++G.1).flatMap Z9) rfl ?b1 _ Y.1.length (Y.1.flatMap Z9) rfl ?b2 ?b3 ?b4 ?b5 ?b6 ?b7 (fun v' w3 HO HG=>?_)))
      case b1=>exact WJ (Zy Yl.o VQ.o) Ud.o (fun k hk=>by omega)
      case b2=>exact F4.o
      case b3=>exact VZ _
      case b4=>exact Yc _
      case b5=>simp;omega
      case b6=>simp;omega
      case b7=>omega
      go_roundw
      case rel=>
       repeat apply Exists.intro
       refine ⟨⟨k+1,Zo,Zn,?_,?_,?_⟩,rfl⟩
       ·have h2:=Uh.o.trans ((Fr.Z8 (· = b) VQ.o).mono Zo (fun _ _ h=>h))
        have h3:=h2.trans (Ud.o.mono Zo (fun _ _ h=>h))
        exact h3.grown HG.o Zo (YL Yl.o)
       ·rw [HF.o]
        exact ZL.grown zC.o (WJ (Zy Yl.o VQ.o) Ud.o (fun k hk=>by omega)) HG.o hb
       ·rw [HF.o]
        dsimp only
        rw [←gV,UM,O_]
        exact HO.o
      case measure=>simp [intOf];omega
     ·have HF:Hid (ZN.ZI p X.2 (k+1)=ZN.ZI p X.2 k):=by show _=_;rw [HS.o,Z4 ho]
      have uY:((ZN.ZI p X.2 k).2.owner ((k:Int)+1) == p)=false:=by rw [WQ];exact ho
      clear ho
      generalize (ZN.ZI p X.2 k).2.owner ((k:Int)+1)=q at *
      generalize ZN.ZI p X.2 k=G at *
      go_wp2_with (go_at_call 75;(with_reducible refine CO.o.mono ?_);rintro e w1 ⟨rfl,YZ⟩)
      go_roundw
      case rel=>
       repeat apply Exists.intro
       exact ⟨⟨k+1,Zo,Zn,Uh.o.trans ((Fr.Z8 (· = b) YZ).mono T5 (fun _ _ h=>h)),by rw [HF.o];exact Vr.o.below YZ,by rw [HF.o];exact Zy Yl.o YZ⟩,rfl⟩
      case measure=>simp [intOf];omega
    ·obtain rfl:k=8:=by omega
     obtain ⟨hpe,hsm3,-⟩:=HLF.o 8
     rw [HPE.o] at hpe
     clear uD HLF HPE ni
     generalize ZN.ZI p X.2 8=G at *
     have ll:0≤G.2.XI p:=by rw [Hh,hpe,←Hh];exact I3.o
     obtain ⟨m,hm,Pp,-,-⟩:=XL ll
     have Pp:G.2.XI p=m:=Pp
     have cb:=SI b G.2 p wr Vr.o
     rw [Pp] at cb
     have CB:=Zh cb
     have HE:Hid (G.2.OW p={G.2 with ZA:=G.2.ZA.take m++G.2.ZA.drop (m+1)}):=by show _=_;unfold ZN.OW;rw [Pp,Wv,List.eraseIdx_eq_take_drop_succ]
     have Uz:=hsm3.ZA
     unfold small at Uz
     clear cb Pp ll hsm3 hpe
     go_wp2_with fail
     (with_reducible refine CB.o.mono ?_)
     rintro e V ⟨rfl,NY⟩
     have M4:=Zh (Vr.o.below NY)
     have HFV:Hid (Fr w (· = b) w V):=Uh.o.trans ((Fr.Z8 _ NY).mono T5 (fun _ _ h=>h))
     have bU:=Zh (Zy Yl.o NY)
     have tE:w.heap.size≤V.heap.size:=PW T5 NY.size
     clear NY CB
     obtain ⟨pv,sv,uv,Yp,XM⟩:=M4.o.VC
     have Sp:=XM.ZA
     obtain ⟨a,cap,rfl,Pq,wR,-,-⟩:=id Sp
     obtain ⟨a1,run1,A4,-⟩:=Sy TY a G.2.ZA.length cap m Zo
     obtain ⟨a2,qE,A5,-⟩:=SV TY a G.2.ZA.length cap (m+1) Zo Pq
     rw [show (((m+1:Nat):Int))=(m:Int)+1 by omega] at qE
     have zF:Hid (∀ w',Below V V w'→Row w' 103 (.slice a1 m cap) m ((G.2.ZA.take m).flatMap Yz)):=fun w' h=>by
      have:=A4 w' _ Zo (PD _) (Sp.below h)
      rwa [Kk Yz 2 (fun _=>rfl)] at this
     have DY:Hid (∀ w',Below V V w'→Row w' 103 (.slice a2 (G.2.ZA.length-(m+1)) (cap-(m+1))) (G.2.ZA.length-(m+1)) ((G.2.ZA.drop (m+1)).flatMap Yz)):=fun w' h=>by
      have:=A5 w' _ (PD _) (Sp.below h)
      rwa [Kj Yz 2 (fun _=>rfl)] at this
     have Gf:Hid (((G.2.ZA.take m).flatMap Yz).length=m*2):=by show _=_;rw [PD,Tg,Nat.min_eq_left Zo]
     have uD:Hid (((G.2.ZA.drop (m+1)).flatMap Yz).length=(G.2.ZA.length-(m+1))*2):=by show _=_;rw [PD,Rx]
     have HL3:Hid ((G.2.ZA.take m++G.2.ZA.drop (m+1)).length=m+(G.2.ZA.length-(m+1))):=by show _=_;rw [UM,Tg,Rx,Nat.min_eq_left Zo]
     have HC:Hid (∀ w',Below V V w'→w'.cell? ⟨b,0,none⟩=some (.slice a G.2.ZA.length cap)):=fun w' h=>(h.cell (p:=⟨b,0,none⟩) Uj).trans (cell_of Yp 0)
     have KN:=M4.o.YC 0
     have HFZ:Hid (∀ w',Below V V w'→w'.frozen? ⟨b,0,none⟩=false):=fun w' h=>(h.frozen (p:=⟨b,0,none⟩) Uj).trans KN
     have sY:m+1≤G.2.ZA.length:=hm
     have mo:IntKind.i64.wrap ((m:Int)+1)=(m:Int)+1:=Ty _ Zo
     have kP:=HC.o V (YH _ _)
     have N9:Below V V V:=YH _ _
     clear KN XM Yp Sp A4 A5 hm
     generalize G.2.ZA.length=N at *
     go_wp2_with fail
     go_region_law (first|(refine Zp Zr (.const (.slice none 0 0)) (.tmp 48) 47 Zr V.heap.size TY (.slice none 0 0) 0 [] Zr (Ua _ _ _ _) (.slice a1 m cap) m ((G.2.ZA.take m).flatMap Yz) Zr ?_ Gf.o (PE _) Zo Zo ?_ ?_;(exact zF.o _ D4);(exact Below.size D4);intro v1 w2 Ui O5;have Yt:Below V V w2:=Below.grown D4 O5.o (Below.size D4) (YL (Ua V _ 103 2));have c2:=HC.o _ Yt)|(refine Zp Zr (.tmp 49) (.tmp 56) 47 Zr V.heap.size TY v1 (0+m) ([]++(G.2.ZA.take m).flatMap Yz) Zr ?_ (.slice a2 (N-(m+1)) (cap-(m+1))) (N-(m+1)) ((G.2.ZA.drop (m+1)).flatMap Yz) Zr ?_ uD.o (PE _) Zo Zo ?_ ?_;(first|exact Ui.o|exact Xi Ui.o);(exact DY.o _ D4);(exact Below.size D4);intro v2 w3 PU KS;have Wp:Below V V w3:=Below.grown D4 KS.o (Below.size D4) (YL Ui.o);have c3:=HC.o _ Wp;have f3:=HFZ.o _ Wp;obtain ⟨va,vc,hv⟩:=WI PU.o;subst hv))
     all_goals
      go_wp2
      go_ret
      have Z0:=Row.Z6 PU.o
      rw [Jy,←O_,QP] at Z0
      have FA:ZL w3 b G.2:=M4.o.below Wp
      have NB:m+(N-(m+1))=(G.2.ZA.take m++G.2.ZA.drop (m+1)).length:=by rw [HL3.o]
      rw [NB] at Z0
      have Ap:=FA.Bb Z0
      rw [←NB] at Ap
      refine ⟨⟨_,rfl,?_⟩,?_,?_⟩
      ·rw [ax.o]
       exact (((Row.Z6 bU.o).below Wp).fr ((Fr.refl w3.heap.size (· = b) w3).setAt _ _) (Zw _) (FA.F8 Zd))
      ·rw [ax.o]
       dsimp only
       rw [HE.o]
       exact Ap
      ·exact (HFV.o.trans ((Fr.Z8 _ Wp).mono tE (fun _ _ h=>h))).setAt _ _
theorem tV (b:Nat) (T:ZN) (p x:Int) (w:World) (hR:ZL w b T) (Vq:T.Small) :
  Calls Tryz.prog 104 (Q9 (some ⟨b,0,none⟩) p x) w fun e w'=>(∃ v,e = .returned (.tuple #[v,.int .i64 (T.YS p x).2])∧YG w' v (T.YS p x).1.1)∧ZL w' b (T.YS p x).1.2∧Fr w (· = b) w w':=by
 have CO:=Zh (fun (w1:World) (h:Below w w w1)=>Ni b T x w1 (hR.below h))
 have CP:=Zh (fun (w1:World) (h:Below w w w1)=>SI b T p w1 (hR.below h))
 have CW:=Zh (fun (w1:World) (h:Below w w w1)=>Rv b T (T.of x).1 w1 (hR.below h))
 have CE:=Zh (fun (w1:World) (h:Below w w w1) (hs:0≤T.YU (T.of x).1)=>PZ b T (T.of x).1 w1 (hR.below h) Vq hs)
 have HG:Hid (T.YS p x=if !(T.of x).2.2 || decide (T.XI p<0) || decide (T.owner (T.of x).1≠p) then (([],T),8) else (T.Yq (T.of x).1,0)):=rfl
 have HR:=Zh hR
 have Fi:Hid ((T.of x).2.2=true→0≤T.YU (T.of x).1):=fun h=>by
  unfold ZN.of at h ⊢
  by_cases hh:T.RZ x<0
  ·rw [ZQ hh] at h;cases h
  ·rw [Z4 hh]
   obtain ⟨k,hk,Sh,-,-⟩:=XL (show 0≤T.RZ x by omega)
   have Sh:T.RZ x=k:=Sh
   dsimp only
   rw [Sh,Wv,KG,Rw,U7 hk]
   exact ⟨T.Yk[k],Ot hk,rfl⟩
 clear hR Vq
 generalize T.YS p x=gv at *
 generalize T.of x=O at *
 obtain ⟨o1,o2,o3⟩:=O
 dsimp only at *
 generalize T.XI p=pa at *
 generalize T.owner o1=ow at *
 cases o3
 ·have HF:Hid (gv=(([],T),8)):=by show _=_;rw [HG.o];rfl
  go_enter Tryz.func104,Tryz.ntmps104
  go_wp2_with (go_at_call 74;(with_reducible refine (CO.o _ (YH _ _)).mono ?_);rintro e w1 ⟨rfl,YZ⟩)
  go_ret2
  rw [HF.o]
  exact ⟨⟨_,rfl,Row.nil _ _⟩,HR.o.below YZ,Fr.Z8 _ YZ⟩
 ·have hs:=Fi.o rfl
  by_cases h1:pa<0
  ·have HF:Hid (gv=(([],T),8)):=by show _=_;rw [HG.o,We h1];rfl
   go_enter Tryz.func104,Tryz.ntmps104
   go_wp2_with (first|(go_at_call 74;(with_reducible refine (CO.o _ (YH _ _)).mono ?_);rintro e w1 ⟨rfl,YZ⟩)|(go_at_call 48;(with_reducible refine (CP.o _ YZ).mono ?_);rintro e w2 ⟨rfl,Y0⟩))
   go_ret2
   rw [HF.o]
   have hb:=YZ.trans (Y0.mono YZ.size)
   exact ⟨⟨_,rfl,Row.nil _ _⟩,HR.o.below hb,Fr.Z8 _ hb⟩
  have h1p:0≤pa:=by omega
  have h1d:decide (pa<0)=false:=WB h1
  by_cases h2:ow=p
  ·subst h2
   have HF:Hid (gv=(T.Yq o1,0)):=by show _=_;rw [HG.o,h1d];simp
   generalize T.Yq o1=Y at *
   go_enter Tryz.func104,Tryz.ntmps104
   go_wp2_with (first|(go_at_call 74;(with_reducible refine (CO.o _ (YH _ _)).mono ?_);rintro e w1 ⟨rfl,YZ⟩)|(go_at_call 48;(with_reducible refine (CP.o _ YZ).mono ?_);rintro e w2 ⟨rfl,Y0⟩;have Fw:=YZ.trans (Y0.mono YZ.size))|(go_at_call 75;(with_reducible refine (CW.o _ Fw).mono ?_);rintro e w3 ⟨rfl,VH⟩;have Eo:=Fw.trans (VH.mono Fw.size))|(go_at_call 98;(with_reducible refine (CE.o _ Eo hs).mono ?_);rintro e w4 ⟨⟨tv,rfl,S8⟩,U3,Wx⟩))
   go_ret2
   rw [HF.o]
   exact ⟨⟨_,rfl,S8⟩,U3,(Fr.Z8 _ Eo).trans (Wx.mono Eo.size (fun _ _ h=>h))⟩
  ·have HF:Hid (gv=(([],T),8)):=by show _=_;rw [HG.o,h1d];simp [h2]
   have uY:(ow == p)=false:=by rw [WQ];exact h2
   have hbq2:(ow != p)=true:=by rw [bne,uY];rfl
   go_enter Tryz.func104,Tryz.ntmps104
   go_wp2_with (first|(go_at_call 74;(with_reducible refine (CO.o _ (YH _ _)).mono ?_);rintro e w1 ⟨rfl,YZ⟩)|(go_at_call 48;(with_reducible refine (CP.o _ YZ).mono ?_);rintro e w2 ⟨rfl,Y0⟩;have Fw:=YZ.trans (Y0.mono YZ.size))|(go_at_call 75;(with_reducible refine (CW.o _ Fw).mono ?_);rintro e w3 ⟨rfl,VH⟩;have Eo:=Fw.trans (VH.mono Fw.size)))
   go_ret2
   rw [HF.o]
   exact ⟨⟨_,rfl,Row.nil _ _⟩,HR.o.below Eo,Fr.Z8 _ Eo⟩
end Go.Proofs.Rm
