/- Part of a proof. -/
import Derived.Test.YtpdjhlcbcomdkaaGreatDoorT23
set_option linter.unusedVariables false
set_option linter.unusedSimpArgs false
set_option maxRecDepth 100000
set_option maxHeartbeats 16000000
open Go Go.Q Go.Qr Go.Proofs.Tryz
namespace Go.Proofs.By
open Go.RowKit Go.Proofs.Heap Go.Proofs
open Go.Proofs.Rm (ZO WA Inv Wn Room ZM KR Ox Wo Dy YW YN)
theorem DB{w:World}{b:Nat}{T:ZO}(h:ZM w b T):JX w (· = b):=by
 obtain⟨_,_,_,hc,_⟩:=h.Vv;intro k hk;subst hk;exact⟨_,_,_,hc,by decide,by decide,by decide,by decide,by decide,by decide,by decide⟩
theorem zQ(b:Nat)(T0:ZO)(R0:Room)(peer:Int)(v:Value)(l:List Ru)(w:World)(hR:ZM w b T0)(qp:WA T0 R0)(hI:Inv R0)(hS:Wn R0)(hv:YH w v l)(We:∀i∈l,Tf i)(hl:l.length≤8) :
  Calls prog 73 #[.pointer (some ⟨b,0,none⟩),.int .i64 peer,v] w fun e w'=>e = .returned (.int .i64 (ZA peer l R0).2)∧(∃T',ZM w' b T'∧WA T' (ZA peer l R0).1.2)∧Fr w (· = b) w w':=by
 obtain⟨L,hlL,Pt⟩:=hv;obtain⟨va,vc,rfl⟩:=Row.form Pt.row;have bz:=Zh (DB hR);have EZ:=Zh Pt;have HR0:=Zh hR;have E3:=Zh qp;have Px:Hid (∀x∈L,Tf x.i):=fun x hx=>We _ (by rw[hlL];exact List.mem_map_of_mem hx)
 have hLl:L.length≤8:=by have:=congrArg List.length hlL;rw[Tx]at this;omega
 have bH:Hid (∀j,Inv (ZA peer ((L.take j).map (·.i)) R0).1.2∧Wn (ZA peer ((L.take j).map (·.i)) R0).1.2∧0≤(ZA peer ((L.take j).map (·.i)) R0).2∧(ZA peer ((L.take j).map (·.i)) R0).2≤8000):=fun j=>by
  have h:=QI peer ((L.take j).map (·.i)) R0 hI hS (fun i hi=>by
   obtain⟨x,hx,rfl⟩:=wI.1 hi
   exact Px.o x (List.mem_of_mem_take hx))
  refine⟨h.1,h.2.1,h.2.2.2.1,Int.le_trans h.2.2.2.2 ?_⟩;have:((L.take j).map (·.i)).length≤8:=by rw[Tx,SY];omega
  omega
 have HE:Hid (ZA peer l R0=ZA peer ((L.take L.length).map (·.i)) R0):=by show _=_;rw[n9,←hlL]
 generalize ZA peer l R0=X at *
 have HTY:Hid (∀k c fr,k=b→w.heap[k]?≠some (.cells c 66 fr)):=bz.o.ne Zi;clear hR qp hI hS We hlL hl Pt;go_enter func73,ntmps73;go_wp2_with fail
 go_loopw [7,22] (fun s7 s22 w'=>∃(j:Nat) (T:ZO),j≤L.length∧s22 = .int .i64 (j:Int)∧s7 = .int .i64 (ZA peer ((L.take j).map (·.i)) R0).2∧Fr w (· = b) w w'∧ZM w' b T∧WA T (ZA peer ((L.take j).map (·.i)) R0).1.2) (fun _ s22 _=>L.length-(intOf s22).toNat)
 case atStart=>exact⟨0,T0,Zo,rfl,rfl,Fr.refl _ _ _,HR0.o,E3.o⟩
 case round=>
  obtain⟨j,T,hj,rfl,rfl,Wm,UY,El⟩:=hrel;have T8:=Zh Wm;clear HR0 E3;by_cases RN:j<L.length
  ·have ZW:=LZ.fr EZ.o Wm bz.o;obtain⟨g',off',e1,V7⟩:=TI YU 10 (fun _=>rfl) ZW.row Zo;cases e1;have hx:L[j]?=some L[j]:=Ve RN;have V7:=V7 j _ hx;have L6:=ZW.each L[j] (OC RN);have We:=Px.o L[j] (OC RN)
   have Lr:Hid (ZA peer ((L.take (j+1)).map (·.i)) R0=(((ZA peer ((L.take j).map (·.i)) R0).1.1++(Yh (ZA peer ((L.take j).map (·.i)) R0).1.2 peer L[j].i).1.1,(Yh (ZA peer ((L.take j).map (·.i)) R0).1.2 peer L[j].i).1.2),(ZA peer ((L.take j).map (·.i)) R0).2+(Yh (ZA peer ((L.take j).map (·.i)) R0).1.2 peer L[j].i).2)):=by
    show _=_;rw[QX hx,Nv];exact N8 peer L[j].i _ R0
   have Cx:=bH.o j;clear ZW hx;generalize L[j]=x at *
   generalize ZA peer ((L.take j).map (·.i)) R0=G at *
   obtain⟨⟨G1,R⟩,gu⟩:=G;obtain⟨i,bv,gv,pv⟩:=x;obtain⟨ba,bc,lC⟩:=Row.form L6.b;obtain⟨ga,gc,uE⟩:=Row.form L6.g;obtain⟨pa,pc,My⟩:=Row.form L6.p;have iR:=L6.g;clear L6;obtain⟨kd,ss,nt,tm,pk,oc,bs,gn,md,ps⟩:=i;have qg:=We.m0;have Bc:=We.m1;have zZ:=We.g;clear We;dsimp only at lC uE My iR qg Bc zZ Lr Cx El ⊢;subst lC;subst uE;subst My;obtain⟨hri,Us,hg0,hg8⟩:=Cx;have NA:wr.rangeAt g' (off'+j*10) (Qe kd ss nt tm pk oc ba bs.length bc ga gn.length gc md pa ps.length pc):=fun m v hm=>(V7 m (by have h:=(List.getElem?_eq_some_iff.1 hm).1;simpa using h)).trans hm
   have Cy:(j:Int)<(L.length:Int):=P6.2 RN;have hz:=Z9 wr (.cells (Qe 0 0 0 0 0 0 none 0 0 none 0 0 0 none 0 0) 173);have Io:=setRow_heap _ _ _ (Qe kd ss nt tm pk oc ba bs.length bc ga gn.length gc md pa ps.length pc) _ _ hz;have P5:Hid (Below wr wr ((wr.alloc (.cells (Qe 0 0 0 0 0 0 none 0 0 none 0 0 0 none 0 0) 173)).setRow wr (Qe kd ss nt tm pk oc ba bs.length bc ga gn.length gc md pa ps.length pc))):=Z0 (Z' wr _) (Zw _) _;have HGR:=Zh (Row.below iR P5.o);have Vm:=Zh (UY.below P5.o);have GH:Hid (Fr w (· = b) w ((wr.alloc (.cells (Qe 0 0 0 0 0 0 none 0 0 none 0 0 0 none 0 0) 173)).setRow wr (Qe kd ss nt tm pk oc ba bs.length bc ga gn.length gc md pa ps.length pc))):=Wm.trans (Fr.Z6 _ (P5.o.mono Wm.size));have Mf:=Zh El;have HRI:=Zh hri;have Ht:=Zh Us;clear V7 iR UY hri Wm T8 P5 Us;go_upto_region 5 with(first|(with_reducible refine Zm NA underlying173 ?_)|(with_reducible refine Zs hz ?_))
   clear hz NA;generalize((wr.alloc (.cells (Qe 0 0 0 0 0 0 none 0 0 none 0 0 0 none 0 0) 173)).setRow wr (Qe kd ss nt tm pk oc ba bs.length bc ga gn.length gc md pa ps.length pc))=w5 at *
   have y0:w5.cell? ⟨wr,0,none⟩=some (.int .i64 kd):=Zc Io 0 rfl;have y1:w5.cell? ⟨wr,1,none⟩=some (.int .u32 ss):=Zc Io 1 rfl;have y7:w5.cell? ⟨wr,7,none⟩=some (.slice ga gn.length gc):=Zc Io 7 rfl;have y8:w5.cell? ⟨wr,8,none⟩=some (.int .u32 md):=Zc Io 8 rfl;clear Io;generalize wr.heap.size=kb at *
   have xg:Hid (Yh R peer ⟨kd,ss,nt,tm,pk,oc,bs,gn,md,ps⟩=if kd=200 then(([],R),if owned R peer ss then 0 else 1)else if kd=205∨kd=206 then(([],R),if UA R peer md then 0 else 1)else if kd=203 then Za peer gn R else(([],R),0)):=rfl;generalize Yh R peer ⟨kd,ss,nt,tm,pk,oc,bs,gn,md,ps⟩=Y at *
   generalize ps.length=pl at *
   generalize bs.length=bl at *
   by_cases LM:kd=200
   ·subst LM;have eY:Hid (Y=(([],R),if owned R peer ss then 0 else 1)):=by show _=_;rw[xg.o];simp
    have LX:=Zh (DC El HRI.o peer ss);have CO:=Zh (KR b T ss w5 Vm.o);clear xg El;generalize owned R peer ss=ow at *
    generalize T.of ss=O at *
    obtain⟨O1,O2,O3⟩:=O;dsimp only at CO LX;have CW:=Zh (fun(w':World) (h:Below w5 w5 w')=>Ox b T O1 w' (Vm.o.below h));generalize T.owner O1=q at *
    have TN:(O3=false∨O3=true∧q≠peer)∨(O3=true∧peer=q):=by cases O3 <;> by_cases hq:q=peer <;> simp[hq,eq_comm]
    rcases TN with TN|⟨rfl,rfl⟩
    ·have C_:ow=false:=by
      cases ow with
      | false=>rfl
      | true=>have:=LX.o.2 rfl;rcases TN with h|⟨_,h⟩;(rw[h]at this;cases this.1);exact absurd this.2 h
     subst C_;have Lf:Hid (Y=(([],R),1)):=eY.o;have HZ:Hid (ZA peer ((L.take (j+1)).map (·.i)) R0=((G1,R),gu+1)):=by show _=_;rw[Lr.o,Lf.o];simp
     clear eY LX Lr Lf;rcases TN with rfl|⟨rfl,hq⟩
     case' inr=>have YZ:(q !=peer)=true:=by rw[RH];exact hq
     all_goals
      go_wp2_with (first|(go_at_call 74;refine CO.o.mono ?_;rintro e w6 ⟨rfl,Cv⟩;have RD:=Zh Cv;clear Cv)|(go_at_call 75;refine(CW.o _ RD.o).mono ?_;rintro e w7 ⟨rfl,MV⟩;replace RD:=Zh (Tr RD MV);clear MV))
      go_roundw
      case rel=>exact⟨j+1,T,Zo,Zn,by rw[HZ.o],GH.o.trans (Fr.Z6 _ (RD.o.mono GH.o.size)),Vm.o.below RD.o,by rw[HZ.o];exact Mf.o⟩
      case measure=>simp[intOf];omega
    ·have C_:ow=true:=LX.o.1 ⟨rfl,rfl⟩;subst C_;have Lf:Hid (Y=(([],R),0)):=eY.o;have HZ:Hid (ZA peer ((L.take (j+1)).map (·.i)) R0=((G1,R),gu)):=by show _=_;rw[Lr.o,Lf.o];simp
     have YZ:(peer !=peer)=false:=by rw[bne_self_eq_false]
     clear eY LX Lr Lf;go_wp2_with (first|(go_at_call 74;refine CO.o.mono ?_;rintro e w6 ⟨rfl,Cv⟩;have RD:=Zh Cv;clear Cv)|(go_at_call 75;refine(CW.o _ RD.o).mono ?_;rintro e w7 ⟨rfl,MV⟩;replace RD:=Zh (Tr RD MV);clear MV))
     exact Yt22
   by_cases k56:kd=205∨kd=206
   ·have eY:Hid (Y=(([],R),if UA R peer md then 0 else 1)):=by show _=_;rw[xg.o,Z3 LM,ZU k56]
    have LX:=Zh (qY El peer md);have CH:=Zh (vp md w5 qg Bc);clear xg El;generalize UA R peer md=ow at *
    generalize U' md=O at *
    obtain⟨O1,O2,O3⟩:=O;dsimp only at CH LX;have CB:=Zh (Wo b T O1 O2 w5 Vm.o);generalize T.Y6 O1 O2=q at *
    have RD:=Zh (YI w5 w5)
    have TN:(O3=false∨O3=true∧O1≠peer∨O3=true∧peer=O1∧q<0)∨(O3=true∧peer=O1∧0≤q):=by
     have:=Int.lt_or_le q 0;cases O3 <;> by_cases hq:O1=peer
     ·simp
     ·simp
     ·subst hq;simpa using this
     ·simp[hq]
    rcases TN with TN|⟨rfl,rfl,hq⟩
    ·have C_:ow=false:=by
      cases ow with
      | false=>rfl
      | true=>have:=LX.o.2 rfl;rcases TN with h|⟨_,h⟩|⟨_,_,h⟩;(rw[h]at this;cases this.1);exact absurd this.2.1 h;exact absurd this.2.2 Zo
     subst C_;have Lf:Hid (Y=(([],R),1)):=eY.o;have HZ:Hid (ZA peer ((L.take (j+1)).map (·.i)) R0=((G1,R),gu+1)):=by show _=_;rw[Lr.o,Lf.o];simp
     clear eY LX Lr Lf;rcases TN with rfl|⟨rfl,hq⟩|⟨rfl,rfl,hq⟩
     case' inr.inl=>have YZ:(O1 !=peer)=true:=by rw[RH];exact hq
     case' inr.inr=>have YZ:(peer !=peer)=false:=by rw[bne_self_eq_false]
     case' inr.inr=>have Zb:decide (q<0)=true:=Ww hq
     all_goals
      rcases k56 with rfl|rfl
      all_goals
       go_wp2_with (first|(go_at_call 103;refine CH.o.mono ?_;rintro e w6 ⟨rfl,rfl⟩)|(go_at_call 51;refine CB.o.mono ?_;rintro e w7 ⟨rfl,MV⟩;have RD:=Zh MV;clear MV))
       go_roundw
       case rel=>exact⟨j+1,T,Zo,Zn,by rw[HZ.o],GH.o.trans (Fr.Z6 _ (RD.o.mono GH.o.size)),Vm.o.below RD.o,by rw[HZ.o];exact Mf.o⟩
       case measure=>simp[intOf];omega
    ·have C_:ow=true:=LX.o.1 ⟨rfl,rfl,hq⟩;subst C_;have Lf:Hid (Y=(([],R),0)):=eY.o;have HZ:Hid (ZA peer ((L.take (j+1)).map (·.i)) R0=((G1,R),gu)):=by show _=_;rw[Lr.o,Lf.o];simp
     have YZ:(peer !=peer)=false:=by rw[bne_self_eq_false]
     have Zb:decide (q<0)=false:=Wz Zo;clear eY LX Lr Lf;rcases k56 with rfl|rfl
     all_goals
      go_wp2_with (first|(go_at_call 103;refine CH.o.mono ?_;rintro e w6 ⟨rfl,rfl⟩)|(go_at_call 51;refine CB.o.mono ?_;rintro e w7 ⟨rfl,MV⟩;have RD:=Zh MV;clear MV))
      go_roundw
      case rel=>exact⟨j+1,T,Zo,Zn,by rw[HZ.o],GH.o.trans (Fr.Z6 _ (RD.o.mono GH.o.size)),Vm.o.below RD.o,by rw[HZ.o];exact Mf.o⟩
      case measure=>simp[intOf];omega
   have e1:(kd==200)=false:=by rw[WM];exact LM
   have e2:(kd==205)=false:=by rw[WM];omega
   have e3:(kd==206)=false:=by rw[WM];omega
   by_cases Hl:kd=203
   rotate_left
   ·have Lf:Hid (Y=(([],R),0)):=by show _=_;rw[xg.o,Z3 LM,Z3 k56,Z3 Hl]
    have e4:(kd==203)=false:=by rw[WM];exact Hl
    have RD:=Zh (YI w5 w5);have HZ:Hid (ZA peer ((L.take (j+1)).map (·.i)) R0=((G1,R),gu)):=by show _=_;rw[Lr.o,Lf.o];simp
    clear xg Lr Lf;go_wp2_with fail
    exact Yt22
   subst Hl;have Lf:Hid (Y=Za peer gn R):=by show _=_;rw[xg.o,Z3 LM,Z3 k56,ZU rfl]
   have HTY5:Hid (∀k c fr,k=b→w5.heap[k]?≠some (.cells c 66 fr)):=(DB Vm.o).ne Zi
   have HGV:Hid (∀m,Inv (Za peer (gn.take m) R).1.2∧0≤(Za peer (gn.take m) R).2∧(Za peer (gn.take m) R).2≤128):=fun m=>by
    have h:=QC peer (gn.take m) R HRI.o Ht.o;rw[SY]at h;exact⟨h.1,h.2.2.2.1,by have:=h.2.2.2.2;omega⟩
   clear xg e1 e2 e3 LM k56 El HRI Ht y1 y8;go_wp2_with fail
   go_loopw [7,80] (fun s7 s80 w'=>∃(m:Nat) (T2:ZO),m≤gn.length∧s80 = .int .i64 (m:Int)∧s7 = .int .i64 (gu+(Za peer (gn.take m) R).2)∧Fr w5 (· = b) w5 w'∧ZM w' b T2∧WA T2 (Za peer (gn.take m) R).1.2) (fun _ s80 _=>gn.length-(intOf s80).toNat)
   case atStart=>exact⟨0,T,Zo,rfl,by show _=Value.int .i64 (gu+0);rw[Int.add_zero],Fr.refl _ _ _,Vm.o,Mf.o⟩
   case round=>
    obtain⟨m,T2,hm,rfl,rfl,uA,OZ,yF⟩:=hrel;have wZ:=Zh uA;have uE:=HGV.o m;by_cases Mj:m<gn.length
    ·obtain⟨g2,yV,cap2,e2,-,-,-,zY⟩:=Rm.Nh (Row.fr HGR.o uA (Zw _) HTY5.o) Zo;cases e2;have hc:=zY m Mj;have HT:=Zh (Gu Mj);have lL:(m:Int)<(gn.length:Int):=P6.2 Mj;have gJ:=ug;clear zY;generalize gn.getD m 0=p at *
     have HS:=Zh (N0 peer p (gn.take m) R);have CG:=Zh (Dy b T2 (Za peer (gn.take m) R).1.2 peer p wr OZ yF uE.1);obtain⟨-,aL,hv2⟩:=uE;clear uA OZ yF;generalize Za peer (gn.take m) R=Gm at *
     generalize YW Gm.1.2 peer p=Z at *
     obtain⟨⟨Z1,Z2⟩,ze⟩:=Z;obtain⟨⟨Gm1,Gm2⟩,gmu⟩:=Gm;dsimp only at CG HS aL hv2;by_cases hze:ze=0
     case' pos=>have EO:(ze !=0)=false:=by rw[hze];rfl
     case' neg=>have EO:(ze !=0)=true:=by rw[RH];exact hze
     case' pos=>have PV:Hid (Za peer (gn.take m++[p]) R=((Gm1++Z1,Z2),gmu)):=by show _=_;rw[HS.o];simp[uf,hze]
     case' neg=>have PV:Hid (Za peer (gn.take m++[p]) R=((Gm1++Z1,Z2),gmu+1)):=by show _=_;rw[HS.o];simp[uf,hze]
     all_goals
      clear HS gJ hze;go_wp2_with (go_at_call 104;refine CG.o.mono ?_;rintro e w8 ⟨⟨tv,rfl,SX⟩,⟨T3,Ej,wM⟩,dv⟩;obtain⟨ta,tc,mj,-⟩:=id SX;subst mj;have xu:=Zh Ej;have E4:=Zh wM;have HF3:=Zh (wZ.o.trans (dv.mono wZ.o.size (fun _ _ h=>h)));clear SX Ej wM dv)
      go_roundw
      case rel=>exact⟨m+1,T3,Zo,Zn,by rw[HT.o,PV.o] <;> first|rfl|rw[Int.add_assoc],HF3.o,xu.o,by rw[HT.o,PV.o];exact E4.o⟩
      case measure=>simp[intOf];omega
    ·have hT:gn.take m=gn:=EM Zo;rw[hT]at yF ⊢;have E4:=Zh yF;have xu:=Zh OZ;have HZ:Hid (ZA peer ((L.take (j+1)).map (·.i)) R0=((G1++(Za peer gn R).1.1,(Za peer gn R).1.2),gu+(Za peer gn R).2)):=by show _=_;rw[Lr.o,Lf.o]
     clear uE HGV uA OZ yF Lr Lf;generalize Za peer gn R=Gm at *
     go_wp2_with fail
     go_roundw
     case rel=>exact⟨j+1,T2,Zo,Zn,by rw[HZ.o],GH.o.trans (wZ.o.mono GH.o.size (fun _ _ h=>h)),xu.o,by rw[HZ.o];exact E4.o⟩
     case measure=>simp[intOf];omega
  ·have Mi:j=L.length:=by omega
   subst Mi;rw[←HE.o]at El ⊢;have Mf:=Zh El;have Vm:=Zh UY;clear Wm UY El bH HE Px EZ;go_wp2_with fail
   go_ret;exact⟨rfl,⟨T,Vm.o,Mf.o⟩,T8.o⟩
open Go.Proofs.Rm (Sw sX WG Y_ of below_drewN)
open Go.Proofs.ND (Xu)
open Go.Proofs.Mem
theorem VT{P:Program}{fn:Func}{p:Tmp}{ty:TypeId}(h:fn.results=#[.cell p ty])(tmps:Array Value)(w:World)(g:Nat)(t:TypeId)(cs:Array Value)(fr:Nat×Nat)(d:TypeDesc)
  (hp:tmps.getD p undef = .pointer (some ⟨g,0,none⟩)) (hg:w.heap[g]?=some (.cells cs t fr))
  (hu:P.underlying ty=some d) (hd:(match d with | .struct _ | .array _ _=>true|_=>false)=true) (hi:(P.info? ty).map (·.size)=some cs.size) :
  (results fn tmps).run P w = .ok (.agg cs) w:=by
 exact Yt8
theorem iC{b:List UInt8}(h:(XY b).2=0):(XY b).1 ≠ .none:=by
 unfold XY at h ⊢;split
 ·rename_i hx;rw[ZU hx]at h;cases h
 rename_i h1
 rw[Z3 h1]at h;split
 ·rename_i hx;rw[ZU hx]at h;cases h
 rename_i h2
 rw[Z3 h2]at h;split
 ·rename_i h3
  rw[ZU h3]at h;split
  ·rename_i hx;rw[ZU hx]at h;exact absurd h hx
  ·exact fun h=>by cases h
 ·rename_i h3
  rw[Z3 h3]at h;split
  ·rename_i hx;rw[ZU hx]at h;exact absurd h hx
  ·rename_i hx
   rw[Z3 hx]at h;split
   ·rename_i hy;rw[ZU hy]at h;exact absurd h hy
   ·exact fun h=>by cases h
def Ud(k b:Nat)(oa:Option Addr)(n oc:Nat)(av ev lv:Value)(c:Ow)(X:(Taken×Room)×Int)(w:World)(e:Ending)(w':World):Prop:=
 e = .returned (.agg (Ju X.1.1.XX))∧w'.heap[k]?=some (.cells (Qw oa n oc av ev lv (c.add X.1.1.XX.kind X.1.1.unknown).bad (c.add X.1.1.XX.kind X.1.1.unknown).XA (c.add X.1.1.XX.kind X.1.1.unknown).unknown (c.add X.1.1.XX.kind X.1.1.unknown).refused 0 0 0 0 (some ⟨b,0,none⟩)) 44 (0,0))∧(∃T',ZM w' b T'∧WA T' X.1.2)∧Fr w (fun j=>j=k∨j=b) w w'
section
variable {k b:Nat} {oa:Option Addr} {n oc:Nat} {av ev lv:Value} {c:Ow} {X:(Taken×Room)×Int} {w:World}
theorem Ud.fin{w8:World}{T':ZO}{t:Taken}{R':Room}{ep' n0 n1 n2 n3:Int}(hX:X=((t,R'),ep'))(hc:c.add t.XX.kind t.unknown=⟨n0,n1,n2,n3⟩)(hk:w8.heap[k]?=some (.cells (Qw oa n oc av ev lv n0 n1 n2 n3 0 0 0 0 (some ⟨b,0,none⟩)) 44 (0,0)))(hr:ZM w8 b T')(hs:WA T' R')(hf:Fr w (fun j=>j=k∨j=b) w w8)(VM:k<w.heap.size)
  {cs:Array Value} {f:Nat×Nat} (hy:w8.heap[w.heap.size+1]?=some (.cells cs 35 f)):Ud k b oa n oc av ev lv c X w (.returned (.agg (Ju t.XX))) (w8.setRow (w.heap.size+1) (Ju t.XX)):=by
 subst hX;unfold Ud;dsimp only;rw[hc];have hf1:Fr w8 (· = w.heap.size+1) w8 (w8.setRow (w.heap.size+1) (Ju t.XX)):=Ti _ _ _;exact⟨rfl,(setRow_other _ _ _ _ Zo).trans hk,⟨T',Ul hr hf1 (UZ hy Zd),hs⟩,hf.trans ⟨hf1.os,hf1.tape,hf1.output,hf1.size,fun j hj hn=>setRow_other _ _ _ _ Zo⟩⟩
end
theorem pK(k b:Nat)(oa:Option Addr)(n oc:Nat)(av ev lv:Value)(c:Ow)(T:ZO)(R:Room)(ep:Int)(o:Rm.Op)(sa ba:Option Addr)(sc bl bc:Nat)(bs:List UInt8)(sv:Value)(w:World)
  (OS:w.heap[k]?=some (.cells (Qw oa n oc av ev lv c.bad c.XA c.unknown c.refused 0 0 0 0 (some ⟨b,0,none⟩)) 44 (0,0))) (hR:ZM w b T) (hs:WA T R) (hI:Inv R) (hT:Xu w) (UT:o.name.length<9223372036854775807) (L9:XM w (.slice sa o.ZK.length sc) o.ZK.length (YN o.ZK)) (h0:0≤ep) (h9:ep<1000000000) (hc:c.Below 1000000000) (qd:o.kind≠1) :
  Calls prog 42 (Qt (some ⟨k,0,none⟩) (Jq o sa o.ZK.length sc ba bl bc) ep) w (Ud k b oa n oc av ev lv c (take R ep o bs sv) w):=by
 have hX:take R ep o bs sv=if(WG R o sv).2≠0 then((Yi 6 (WG R o sv).2,R),ep)else((Uq (ep+1) [] (WG R o sv).1.1 0,(WG R o sv).1.2),ep+1):=by unfold take;rw[Z3 qd]
 have HX:=Zh hX;have HDE:=Zh (fun(h:(WG R o sv).2≠0)=>r7 h);have VM:=ZX OS;have WX:=hR.lt
 have iT:k≠b:=fun e=>by
  obtain⟨_,_,_,h,_⟩:=hR.Vv;rw[←e,OS]at h;injection h with h
  injection h with _ h
  exact absurd h Zd
 obtain⟨⟨-,hc0⟩,⟨-,gI⟩,⟨-,zY⟩,⟨hr0,p7⟩⟩:=hc;obtain⟨kd,p,s,q,nm,ss⟩:=o;dsimp only at UT L9 qd ⊢;have e1:(kd !=1)=true:=by rw[RH];exact qd
 obtain⟨y0,y1,Uk⟩:=V4 w (Qa kd p s q (str nm) sa ss.length sc ba bl bc) (Qb 0 0 0 0) 32 35;have Vk:Hid (Below w w ((w.alloc (.cells (Qa kd p s q (str nm) sa ss.length sc ba bl bc) 32)).alloc (.cells (Qb 0 0 0 0) 35))):=ZF (Z' w _) (Zw _) _;have CD:=Zh (sX b T R ⟨kd,p,s,q,nm,ss⟩ sv sa ba sc bl bc ((w.alloc (.cells (Qa kd p s q (str nm) sa ss.length sc ba bl bc) 32)).alloc (.cells (Qb 0 0 0 0) 35)).drew (hR.below Vk.o.drew) hs hI (Utf8Tabs_below hT Vk.o.drew) UT (L9.below Vk.o.drew));generalize take R ep ⟨kd,p,s,q,nm,ss⟩ bs sv=X at *
 generalize WG R ⟨kd,p,s,q,nm,ss⟩ sv=D at *
 obtain⟨⟨D1,D2⟩,er⟩:=D;dsimp only at CD HX HDE;clear hX L9 hT hR hI;go_enter func42,ntmps42;go_upto_region 2 with fail
 have Em:=Zh y1;have dD:=(Vk.o.block _ VM).trans OS;have HK:=Zh dD;have HY:=Zh y0;have Lf:=Zh y1;have GD:=Vk;have hszX:=Uk;clear y0 y1 dD;generalize((w.alloc (.cells (Qa kd p s q (str nm) sa ss.length sc ba bl bc) 32)).alloc (.cells (Qb 0 0 0 0) 35))=w1 at *
 have ZB:Hid (∀w',Below w1 w1 w'→w'.cell? ⟨k,12,none⟩=some (.pointer (some ⟨b,0,none⟩))∧w'.heap[w.heap.size]?=some (.cells (Qa kd p s q (str nm) sa ss.length sc ba bl bc) 32 (0,0))):=fun w' h=>
  ⟨by rw[cell_of ((h.block _ (ZX HK.o)).trans HK.o) 12];rfl,(h.block _ (ZX HY.o)).trans HY.o⟩
 clear Em;refine R5 ?_;refine Z_.Zj (d:=5) (S:=(fun w'=>w'.cell? ⟨k,12,none⟩=some (.pointer (some ⟨b,0,none⟩))∧w'.heap[w.heap.size]?=some (.cells (Qa kd p s q (str nm) sa ss.length sc ba bl bc) 32 (0,0)))) Zk ?_ (fun X7=>?_)
 ·exact ZB.o _ (YI _ _).drew
 refine YP 0 (h:=YP 1 (h:=YP 2 (h:=YK 3 (h:=?_))));refine Z_.tk 4 ?_ rfl ?_ <| ?_
 rotate_left
 ·intro wS Ub;(try dsimp only at Ub)
  refine Vh 32 (.tmp 4) ?_ w ?_ 32 (Qa kd p s q (str nm) sa ss.length sc ba bl bc) (0,0) _ Ub.2 underlying32 rfl Zk;all_goals rfl
 try simp only[Z_.pt]
 refine YR 5 (h:=fun K hK=>?_);go_simp;refine CD.o.mono ?_;rintro e w2 ⟨⟨tv,rfl,SX⟩,⟨T2,Mz,GU⟩,uA⟩;obtain⟨ta,tc,mj,-⟩:=id SX;subst mj;have rP:=Zh Mz;have PV:=Zh GU;have wZ:=Zh uA;clear SX Mz GU uA;go_wp2_with fail
 refine Z_.Yf hK _ _ Zk ?_;clear hK K;try simp only[Z_.pt]
 refine YP 6 (h:=YP 7 (h:=YP 8 (h:=YP 9 (h:=YP 10 (h:=?_)))));refine Z_.Yx Zk ?_ _;refine QZ ?_;clear ZB CD;have hsw:w1.heap.size≤w2.heap.size:=PX (YI w1 w1).drew.size wZ.o.size;have HF3:Hid (Fr w1 (· = b) w1 w2):=(Fr.Z6 _ (YI w1 w1).drew).trans (wZ.o.mono (YI w1 w1).drew.size (fun _ _ h=>h));have nS:Hid (Fr w (fun j=>j=k∨j=b) w w2):=(Fr.Z6 _ Vk.o).trans (HF3.o.mono Vk.o.size (fun _ _ h=>WB h));have k2:=(HF3.o.block k (ZX HK.o) iT).trans HK.o;have y2:=(HF3.o.block (w.heap.size+1) (ZX Lf.o) Zo).trans Lf.o;clear wZ HF3 HK HY Lf;by_cases RM:er=0
 rotate_left
 ·have bl:(er !=0)=true:=by rw[RH];exact RM
  have hX:X=((Yi 6 er,R),ep):=by rw[HX.o];exact ZU RM
  have hD2:D2=R:=HDE.o RM;subst hD2;have q7:w2.cell? ⟨k,7,none⟩=some (.int .i64 c.refused):=Zc k2 7 rfl;have f7:w2.frozen? ⟨k,7,none⟩=false:=ZP k2 7;have pV:=Zh hX;have gA:=Zh (Ul rP.o (Fr.setAt (Fr.refl w2 (· = k) w2) 7 (.int .i64 (c.refused+1))) (UZ k2 Zd));have ld:=Zh (VH k2 7 (.int .i64 (c.refused+1)));have gh:=Zh (nS.o.setCell (p:=⟨k,7,none⟩) (WB (WO rfl)) (.int .i64 (c.refused+1)));have lj:=Zh ((Mg w2 ⟨k,7,none⟩ (.int .i64 (c.refused+1)) (w.heap.size+1) (by show _≠k;omega)).trans y2);clear HX HDE hX k2 y2 nS rP;go_upto_region 5 with fail
  generalize w2.setCell ⟨k,7,none⟩ (.int .i64 (c.refused+1))=w8 at *
  have y1:=lj.o;have kb:=ld.o;clear q7 f7;go_wp2_with (first|(with_reducible refine Zs y1 ?_))
  refine VD (v:= .agg (Qb 6 0 0 er)) ?_ rfl ?_
  ·exact VT (p:=6) Zr _ _ (w.heap.size+1) 35 (Qb 6 0 0 er) (0,0) _ Zr (setRow_heap _ _ _ _ _ _ y1) underlying35 rfl Zk
  exact Ud.fin (T':=_) pV.o (by simp[Ow.add,Yi,UD]) kb gA.o PV.o gh.o VM y1
 subst RM;have hX:X=((Uq (ep+1) [] D1 0,D2),ep+1):=by rw[HX.o];exact Z3 (fun h=>h rfl)
 have pV:=Zh hX;have y1:=y2;have kb:=k2;clear HX HDE hX y2 k2;go_wp2_with (first|(with_reducible refine Zs y1 ?_))
 refine VD (v:= .agg (Qb 2 0 (ep+1) 0)) ?_ rfl ?_
 ·exact VT (p:=6) Zr _ _ (w.heap.size+1) 35 (Qb 2 0 (ep+1) 0) (0,0) _ Zr (setRow_heap _ _ _ _ _ _ y1) underlying35 rfl Zk
 exact Ud.fin (T':=_) pV.o (by simp[Ow.add,Uq,UD]) kb rP.o PV.o nS.o VM y1
theorem zI{b:List UInt8}{l:List Ru}(h:(XY b).1 = .Yb l):(∀i∈l,Tf i)∧l.length≤8:=by
 have key:l=(Yq b).1:=by
  unfold XY at h;split at h
  ·cases h
  split at h
  ·cases h
  split at h
  ·split at h
   ·cases h
   ·injection h with h;exact h.symm
  ·split at h
   ·cases h
   ·split at h <;> cases h
 rw[key];exact Tm b
theorem kR{E:Ev}(h:E ≠ .none):(E.kd=1∧E = .XT E.pk E.ds)∨(E.kd=2∧E = .Yb E.il):=by
 cases E with
 | none=>exact absurd rfl h
 | XT p d=>exact WO ⟨rfl,rfl⟩
 | Yb l=>exact WB ⟨rfl,rfl⟩
theorem kD(k b:Nat)(oa:Option Addr)(n oc:Nat)(av ev lv:Value)(c:Ow)(T:ZO)(R:Room)(ep:Int)(o:Rm.Op)(sa ba:Option Addr)(sl sc bl bc:Nat)(bs:List UInt8)(sv:Value)(w:World)
  (OS:w.heap[k]?=some (.cells (Qw oa n oc av ev lv c.bad c.XA c.unknown c.refused 0 0 0 0 (some ⟨b,0,none⟩)) 44 (0,0))) (hR:ZM w b T) (hs:WA T R) (hI:Inv R) (hS:Wn R) (pZ:X5 w (.slice ba bl bc) bs) (h0:0≤ep) (h9:ep<1000000000) (hc:c.Below 1000000000) (qd:o.kind=1) :
  Calls prog 42 (Qt (some ⟨k,0,none⟩) (Jq o sa sl sc ba bl bc) ep) w (Ud k b oa n oc av ev lv c (take R ep o bs sv) w):=by
 have HX:Hid (take R ep o bs sv=if(XY bs).2≠0 then((Yi 3 (XY bs).2,R),ep)else if !Y_ R o.peer then((Yi 4 0,R),ep)else match(XY bs).1 with
  | .XT p d=>((VW R ep o.peer p d,R),ep)
  | .Yb l=>((Uq (ep+1) l (ZA o.peer l R).1.1 (ZA o.peer l R).2,(ZA o.peer l R).1.2),ep+1)
  | .none=>((Uq (ep+1) [] [] 0,R),ep+1)):=by show _=_;unfold take;rw[ZU qd];rfl
 have eV:=Zh (fun(h:(XY bs).2=0)=>kR (iC h));have HSI:=Zh (fun(l:List Ru) (h:(XY bs).1 = .Yb l)=>zI h);have VM:=ZX OS;have WX:=hR.lt
 have iT:k≠b:=fun e=>by
  obtain⟨_,_,_,h,_⟩:=hR.Vv;rw[←e,OS]at h;injection h with h
  injection h with _ h
  exact absurd h Zd
 obtain⟨⟨Nw,hc0⟩,⟨qp,gI⟩,⟨hu0,zY⟩,⟨hr0,p7⟩⟩:=hc;obtain⟨kd,p,s,q,nm,ss⟩:=o;dsimp only at qd HX ⊢;subst qd;obtain⟨y0,y1,Uk⟩:=V4 w (Qa 1 p s q (str nm) sa sl sc ba bl bc) (Qb 0 0 0 0) 32 35;have Vk:Hid (Below w w ((w.alloc (.cells (Qa 1 p s q (str nm) sa sl sc ba bl bc) 32)).alloc (.cells (Qb 0 0 0 0) 35))):=ZF (Z' w _) (Zw _) _;have CS:=Zh (Dz _ bs ((w.alloc (.cells (Qa 1 p s q (str nm) sa sl sc ba bl bc) 32)).alloc (.cells (Qb 0 0 0 0) 35)) (pZ.below Vk.o));have HBLK:=Zh OS;have Vm:=Zh hR;have HJ:=Zh (hs.XD p);have Mf:=Zh hs;have HII:=Zh hI;have Ht:=Zh hS;generalize take R ep ⟨1,p,s,q,nm,ss⟩ bs sv=X at *
 generalize XY bs=SB at *
 obtain⟨E,er⟩:=SB;dsimp only at CS HX eV HSI;clear OS pZ hR hs hI hS;go_enter func42,ntmps42;go_upto_region 8 with(go_at_call 41;refine CS.o.mono ?_;rintro e w2 ⟨⟨a,rfl,Kt⟩,Zb⟩;obtain⟨cv,xv,pv,iv,rfl,Hk⟩:=xK.form Kt;obtain⟨⟨ca,cc,Hi⟩,⟨ea,ec,dS⟩,⟨pa,pc,My⟩⟩:=Vy.form Hk.p;obtain⟨ia,ic,Cx⟩:=YH.form Hk.i;dsimp only at Hi dS My Cx;subst Hi;subst dS;subst My;subst Cx;dsimp only[Xh,Sj,VJ,List.cons_append,Hz];have Hb:=Zh Hk.i;have Yg:=Zh Zb;clear Kt Hk Zb)
 clear CS;dsimp only at Hb;generalize E.kd=K at *
 generalize E.pk=P at *
 generalize E.ds=d at *
 generalize E.il=IL at *
 have ye:=Z9 w2 (.cells (Jw K P ca cc ea ec pa pc d ia IL.length ic) 84);have WU:Hid (Below w w (w2.alloc (.cells (Jw K P ca cc ea ec pa pc d ia IL.length ic) 84))):=ZF (Tr Vk Yg.o) (Zw _) _;have aP:=((Yg.o.trans ((Z' w2 (.cells (Jw K P ca cc ea ec pa pc d ia IL.length ic) 84)).mono Yg.o.size)).block _ (ZX y0)).trans y0;have Em:=((Yg.o.trans ((Z' w2 (.cells (Jw K P ca cc ea ec pa pc d ia IL.length ic) 84)).mono Yg.o.size)).block _ (ZX y1)).trans y1;have jA:=Zh (Hb.o.below (Z' w2 (.cells (Jw K P ca cc ea ec pa pc d ia IL.length ic) 84)));have heb:w.heap.size+2≤w2.heap.size:=by have:=Yg.o.size;rw[Uk]at this;exact this
 clear y0 y1 Hb Uk;generalize(w2.alloc (.cells (Jw K P ca cc ea ec pa pc d ia IL.length ic) 84))=w3 at *
 generalize w2.heap.size=eb at *
 have kW:=(WU.o.block _ VM).trans HBLK.o;have cV:=Zh (Vm.o.below WU.o);have gi:Hid (Fr w (fun j=>j=k∨j=b) w w3):=Fr.Z6 _ WU.o;by_cases RM:er=0
 rotate_left
 ·have bl:(er !=0)=true:=by rw[RH];exact RM
  have hX:X=((Yi 3 er,R),ep):=by rw[HX.o];exact ZU RM
  have pV:=Zh hX;clear HX eV HSI hX Yg Vk jA ye aP;go_upto_region 9 with fail
  have q8:w3.cell? ⟨k,4,none⟩=some (.int .i64 c.bad):=Zc kW 4 rfl;have f8:w3.frozen? ⟨k,4,none⟩=false:=ZP kW 4;have gA:=Zh (Ul cV.o (Fr.setAt (Fr.refl w3 (· = k) w3) 4 (.int .i64 (c.bad+1))) (UZ kW Zd));have ld:=Zh (VH kW 4 (.int .i64 (c.bad+1)));have gh:=Zh (gi.o.setCell (p:=⟨k,4,none⟩) (WB (WO rfl)) (.int .i64 (c.bad+1)));have lj:=Zh ((Mg w3 ⟨k,4,none⟩ (.int .i64 (c.bad+1)) (w.heap.size+1) (by show _≠k;omega)).trans Em);clear kW Em;go_upto_region 10 with fail
  generalize w3.setCell ⟨k,4,none⟩ (.int .i64 (c.bad+1))=w8 at *
  have y1:=lj.o;have kb:=ld.o;clear q8 f8;go_wp2_with (first|(with_reducible refine Zs y1 ?_))
  refine VD (v:= .agg (Qb 3 0 0 er)) ?_ rfl ?_
  ·exact VT (p:=6) Zr _ _ (w.heap.size+1) 35 (Qb 3 0 0 er) (0,0) _ Zr (setRow_heap _ _ _ _ _ _ y1) underlying35 rfl Zk
  exact Yt23
 subst RM;have zW:=Zh (eV.o rfl);rw[Z3 (fun h=>h rfl)]at HX;have HY0:=Zh aP;have Lf:=Zh Em;have HYE:=Zh ye;have iI:=Zh kW
 have ZB:Hid (∀w',Below w3 w3 w'→w'.cell? ⟨k,12,none⟩=some (.pointer (some ⟨b,0,none⟩))∧w'.cell? ⟨w,1,none⟩=some (.int .i64 p)∧w'.cell? ⟨eb,5,none⟩=some (.int .u32 P.Yl)∧w'.cell? ⟨eb,12,none⟩=some (.int .i64 d.ZI)):=fun w' h=>by
  have a1:=(h.block _ (ZX iI.o)).trans iI.o;have a2:=(h.block _ (ZX HY0.o)).trans HY0.o;have a3:=(h.block _ (ZX HYE.o)).trans HYE.o;exact⟨Zc a1 12 rfl,Zc a2 1 rfl,Zc a3 5 rfl,Zc a3 12 rfl⟩
 have CP:=Zh (Sw b T p w3.drew (cV.o.below (YI _ _).drew));clear eV Vk Yg aP Em ye kW;generalize T.XD p=tp at *
 go_upto_region 11 with fail
 refine R5 ?_;refine Z_.Zj (d:=6) (S:=(fun w'=>w'.cell? ⟨k,12,none⟩=some (.pointer (some ⟨b,0,none⟩))∧w'.cell? ⟨w,1,none⟩=some (.int .i64 p)∧w'.cell? ⟨eb,5,none⟩=some (.int .u32 P.Yl)∧w'.cell? ⟨eb,12,none⟩=some (.int .i64 d.ZI))) Zk ?_ (fun X7=>?_)
 ·exact ZB.o _ (YI _ _).drew
 refine YP 0 (h:=YP 1 (h:=YP 2 (h:=YP 4 (h:=YK 3 (h:=YK 5 (h:=?_))))));refine YR 6 (h:=fun K hK=>?_);go_simp;refine CP.o.mono ?_;rintro e w6 ⟨rfl,Cv⟩;have jq:Hid (Below w3 w3 w6):=(YI w3 w3).drew.trans Cv;clear Cv;go_wp2_with fail
 refine Z_.Yf hK _ _ Zk ?_;clear hK K;try simp only[Z_.pt]
 refine YP 7 (h:=YP 8 (h:=?_));refine Z_.Yx Zk ?_ _;refine QZ ?_;clear CP;by_cases hj:0≤tp
 rotate_left
 ·have hjd:decide (tp<0)=true:=Ww Zo;have hjn:Y_ R p=false:=by rw[J8];intro h;exact hj (HJ.o.2 h)
  have hX:X=((Yi 4 0,R),ep):=by rw[HX.o,hjn];rfl
  have pV:=Zh hX;have Cs:=Zh (jq.o);have kW:=(Cs.o.block _ (ZX iI.o)).trans iI.o;have Em:=(Cs.o.block _ (ZX Lf.o)).trans Lf.o;have yr:=Zh (cV.o.below Cs.o);have A4:Hid (Fr w (fun j=>j=k∨j=b) w w6):=gi.o.trans (Fr.Z6 _ (Cs.o.mono gi.o.size));clear HX HJ hX hjn ZB jA;go_upto_region 12 with fail
  have q8:w6.cell? ⟨k,5,none⟩=some (.int .i64 c.XA):=Zc kW 5 rfl;have f8:w6.frozen? ⟨k,5,none⟩=false:=ZP kW 5;have gA:=Zh (Ul yr.o (Fr.setAt (Fr.refl w6 (· = k) w6) 5 (.int .i64 (c.XA+1))) (UZ kW Zd));have ld:=Zh (VH kW 5 (.int .i64 (c.XA+1)));have gh:=Zh (A4.o.setCell (p:=⟨k,5,none⟩) (WB (WO rfl)) (.int .i64 (c.XA+1)));have lj:=Zh ((Mg w6 ⟨k,5,none⟩ (.int .i64 (c.XA+1)) (w.heap.size+1) (by show _≠k;omega)).trans Em);clear kW Em;go_upto_region 13 with fail
  generalize w6.setCell ⟨k,5,none⟩ (.int .i64 (c.XA+1))=w8 at *
  have y1:=lj.o;have kb:=ld.o;clear q8 f8;go_wp2_with (first|(with_reducible refine Zs y1 ?_))
  refine VD (v:= .agg (Qb 4 0 0 0)) ?_ rfl ?_
  ·exact VT (p:=6) Zr _ _ (w.heap.size+1) 35 (Qb 4 0 0 0) (0,0) _ Zr (setRow_heap _ _ _ _ _ _ y1) underlying35 rfl Zk
  exact Yt23
 have hjd:decide (tp<0)=false:=Wz Zo;have hjn:Y_ R p=true:=HJ.o.1 hj;rw[hjn]at HX;rw[Z3 Zi]at HX;have e6:=(jq.o.block _ (ZX HYE.o)).trans HYE.o;have k0:w6.cell? ⟨eb,0,none⟩=some (.int .i64 K):=Zc e6 0 rfl;clear HJ hjn e6;rcases zW.o with⟨rfl,hE⟩|⟨rfl,hE⟩
 rotate_left
 ·subst hE;dsimp only at HX;have Px:=Zh (HSI.o IL rfl);have HID:=Zh (QI p IL R HII.o Ht.o Px.o.1);have Cs:=Zh jq.o;have kW:=(Cs.o.block _ (ZX iI.o)).trans iI.o;have Em:=(Cs.o.block _ (ZX Lf.o)).trans Lf.o;have yr:=Zh (cV.o.below Cs.o);have A4:Hid (Fr w (fun j=>j=k∨j=b) w w6):=gi.o.trans (Fr.Z6 _ (Cs.o.mono gi.o.size));have y0:=(Cs.o.block _ (ZX HY0.o)).trans HY0.o;have ye:=(Cs.o.block _ (ZX HYE.o)).trans HYE.o;have eD:=Zh kW;have HY16:=Zh Em;have HY06:=Zh y0;have HYE6:=Zh ye;have jB:=Zh (jA.o.below Cs.o);have hid1:=HID.o.2.2.2.1;have hid2:=HID.o.2.2.2.2;have hid3:=Px.o.2;have hbe:b≠eb:=by omega
  have Py:Hid (∀w',Fr w6 (· = b) w6 w'→w'.cell? ⟨k,6,none⟩=some (.int .i64 c.unknown)∧w'.cell? ⟨k,12,none⟩=some (.pointer (some ⟨b,0,none⟩))∧w'.cell? ⟨w,1,none⟩=some (.int .i64 p)∧w'.cell? ⟨eb,16,none⟩=some (.slice ia IL.length ic)):=fun w' h=>by
   have a1:=(h.block _ (ZX eD.o) iT).trans eD.o;have a2:=(h.block _ (ZX HY06.o) Zo).trans HY06.o;have a3:=(h.block _ (ZX HYE6.o) (fun e=>hbe e.symm)).trans HYE6.o;exact⟨Zc a1 6 rfl,Zc a1 12 rfl,Zc a2 1 rfl,Zc a3 16 rfl⟩
  have CU:=Zh (zQ b T R p _ IL w6.drew (yr.o.below (YI _ _).drew) Mf.o HII.o Ht.o (jB.o.below (YI _ _).drew) Px.o.1 Px.o.2);generalize ZA p IL R=ID at *
  obtain⟨⟨D1,D2⟩,du⟩:=ID;dsimp only at HX CU hid1 hid2;clear kW Em y0 ye ZB Px HSI zW jB jA;go_upto_region 15 with fail
  refine R5 ?_;refine Z_.Zj (d:=18) (S:=(fun w'=>w'.cell? ⟨k,6,none⟩=some (.int .i64 c.unknown)∧w'.cell? ⟨k,12,none⟩=some (.pointer (some ⟨b,0,none⟩))∧w'.cell? ⟨w,1,none⟩=some (.int .i64 p)∧w'.cell? ⟨eb,16,none⟩=some (.slice ia IL.length ic))) Zk ?_ (fun X7=>?_)
  ·first|exact Py.o _ (Fr.Z6 _ (YI _ _).drew)|exact Py.o _ iH.o
  refine YP 0 (h:=YP 1 (h:=YP 2 (h:=YP 3 (h:=YP 5 (h:=YP 6 (h:=YP 7 (h:=YP 9 (h:=YP 11 (h:=YQ 4 [] (h:=YQ 8 [] (h:=YQ 10 [] (h:=YQ 12 [] (h:=?_)))))))))))));refine YR 13 (h:=fun K hK=>?_);go_simp;refine CU.o.mono ?_;rintro e w7 ⟨rfl,⟨T7,gY,aD⟩,gM⟩;have HR7:=Zh gY;have HS7:=Zh aD;have iH:Hid (Fr w6 (· = b) w6 w7):=(Fr.Z6 _ (YI w6 w6).drew).trans (gM.mono (YI w6 w6).drew.size (fun _ _ h=>h));have k7:=(iH.o.block _ (ZX eD.o) iT).trans eD.o;have f7:w7.frozen? ⟨k,6,none⟩=false:=ZP k7 6;have gA:=Zh (Ul gY (Fr.setAt (Fr.refl w7 (· = k) w7) 6 (.int .i64 (c.unknown+du))) (UZ k7 Zd));have ld:=Zh (VH k7 6 (.int .i64 (c.unknown+du)));have gh:=Zh (Fr.setCell (p:=⟨k,6,none⟩) (A4.o.trans (iH.o.mono A4.o.size (fun _ _ h=>WB h))) (WB (WO rfl)) (.int .i64 (c.unknown+du)));have lj:=Zh ((Mg w7 ⟨k,6,none⟩ (.int .i64 (c.unknown+du)) (w.heap.size+1) (by show _≠k;omega)).trans ((iH.o.block _ (ZX HY16.o) Zo).trans HY16.o));clear gY aD gM k7 CU;go_wp2_with fail
  refine Z_.Y9 hK _ _ ?_ (fun XC=>?_)
  ·first|exact Py.o _ (Fr.Z6 _ (YI _ _).drew)|exact Py.o _ iH.o
  clear hK K;try simp only[Z_.pt]
  refine YP 14 (h:=YP 15 (h:=YP 16 (h:=YP 17 (h:=?_))));refine YR 18 (h:=fun K hK=>?_);go_simp;refine Z_.Yf hK _ _ Zk ?_;clear hK K;try simp only[Z_.pt]
  refine Z_.Yx Zk ?_ _;refine QZ ?_;have hX:X=((Uq (ep+1) IL D1 du,D2),ep+1):=HX.o;have pV:=Zh hX;clear HX hX Py;have y1:=lj.o;have kb:=ld.o;go_wp2_with (first|(with_reducible refine Zs y1 ?_))
  refine VD (v:= .agg (Qb 2 0 (ep+1) 0)) ?_ rfl ?_
  ·exact VT (p:=6) Zr _ _ (w.heap.size+1) 35 (Qb 2 0 (ep+1) 0) (0,0) _ Zr (setRow_heap _ _ _ _ _ _ y1) underlying35 rfl Zk
  exact Ud.fin (T':=_) pV.o (by simp[Ow.add,Uq,UD]) kb gA.o HS7.o gh.o VM y1
 subst hE;dsimp only at HX;have LX:=Zh (DC Mf.o HII.o p P.Yl);have HME:Hid (VW R ep p P d=if owned R p P.Yl&&decide ((T.of P.Yl).2.1=d.ZI)then{UD with XX:=⟨1,(T.of P.Yl).1,ep,0⟩,XQ:=P,Wx:=d}else Yi 5 0):=by show _=_;rw[Mf.o.of_eq HII.o];rfl
 generalize VW R ep p P d=M at *
 have Cs:=Zh jq.o;have Py:Hid (∀w',Below w6 w6 w'→w'.cell? ⟨k,12,none⟩=some (.pointer (some ⟨b,0,none⟩))∧w'.cell? ⟨w,1,none⟩=some (.int .i64 p)∧w'.cell? ⟨eb,5,none⟩=some (.int .u32 P.Yl)∧w'.cell? ⟨eb,12,none⟩=some (.int .i64 d.ZI)):=fun w' h=>ZB.o _ (Tr Cs h)
 have CO:=Zh (KR b T P.Yl w6.drew (cV.o.below (Cs.o.drew)));have jf:=Zh (fun(x:Int) (w':World) (h:Below w6 w6 w')=>Ox b T x w' (cV.o.below (Tr Cs h)));generalize owned R p P.Yl=ow at *
 generalize T.of P.Yl=O at *
 obtain⟨O1,O2,O3⟩:=O;dsimp only at CO LX HME;clear ZB jA HSI zW;go_upto_region 17 with fail
 refine R5 ?_;refine Z_.Zj (d:=7) (S:=(fun w'=>w'.cell? ⟨k,12,none⟩=some (.pointer (some ⟨b,0,none⟩))∧w'.cell? ⟨w,1,none⟩=some (.int .i64 p)∧w'.cell? ⟨eb,5,none⟩=some (.int .u32 P.Yl)∧w'.cell? ⟨eb,12,none⟩=some (.int .i64 d.ZI))) Zk ?_ (fun X7=>?_)
 ·exact Py.o _ (YI _ _).drew
 refine YP 0 (h:=YP 1 (h:=YP 2 (h:=YP 4 (h:=YP 5 (h:=YK 3 (h:=YK 6 (h:=?_)))))));refine YR 7 (h:=fun K hK=>?_);go_simp;refine CO.o.mono ?_;rintro e w7 ⟨rfl,MV⟩;have wu:Hid (Below w6 w6 w7):=(YI w6 w6).drew.trans MV;clear MV;go_wp2_with fail
 refine Z_.Yf hK _ _ Zk ?_;clear hK K;try simp only[Z_.pt]
 refine YP 8 (h:=YP 9 (h:=YP 10 (h:=YP 11 (h:=YP 12 (h:=YP 13 (h:=YP 14 (h:=?_)))))));refine Z_.Yx Zk ?_ _;refine QZ ?_;clear CO;have hB7:=Zh (Tr Cs wu.o);have HMX:Hid (X=((M,R),ep)):=HX.o;clear HX;go_upto_region 18 with fail
 by_cases iV:O3=true∧O2=d.ZI
 rotate_left
 ·have hM:M=Yi 5 0:=by
   rw[HME.o];refine Z3 fun h=>iV ?_
   rw[UW,Sz]at h;exact⟨(LX.o.2 h.1).1,h.2⟩
  have hX:X=((Yi 5 0,R),ep):=by rw[HMX.o,hM]
  have pV:=Zh hX;obtain⟨z12,z1,z5,z4⟩:=Py.o _ wu.o;clear HMX HME LX hM hX jf;have TN:O3=false∨(O3=true∧O2≠d.ZI):=by cases O3 <;> simp at iV ⊢;exact iV
  clear iV;rcases TN with rfl|⟨rfl,iV⟩
  case' inr=>have YZ:(O2 !=d.ZI)=true:=by rw[RH];exact iV
  all_goals
   go_quiet (fail)
   have hB8:=Zh (below_drewN hB7.o nq);have kW:=(hB8.o.block _ (ZX iI.o)).trans iI.o;have Em:=(hB8.o.block _ (ZX Lf.o)).trans Lf.o;have yr:=Zh (cV.o.below hB8.o);have A4:Hid (Fr w (fun j=>j=k∨j=b) w (w7.drewN nq)):=gi.o.trans (Fr.Z6 _ (hB8.o.mono gi.o.size));clear Py z12 z1 z5 z4;generalize w7.drewN nq=w9 at *
   go_upto_region 19 with fail
   have q8:w9.cell? ⟨k,6,none⟩=some (.int .i64 c.unknown):=Zc kW 6 rfl;have f8:w9.frozen? ⟨k,6,none⟩=false:=ZP kW 6;have gA:=Zh (Ul yr.o (Fr.setAt (Fr.refl w9 (· = k) w9) 6 (.int .i64 (c.unknown+1))) (UZ kW Zd));have ld:=Zh (VH kW 6 (.int .i64 (c.unknown+1)));have gh:=Zh (A4.o.setCell (p:=⟨k,6,none⟩) (WB (WO rfl)) (.int .i64 (c.unknown+1)));have lj:=Zh ((Mg w9 ⟨k,6,none⟩ (.int .i64 (c.unknown+1)) (w.heap.size+1) (by show _≠k;omega)).trans Em);clear kW Em;go_upto_region 20 with fail
   generalize w9.setCell ⟨k,6,none⟩ (.int .i64 (c.unknown+1))=w8 at *
   have y1:=lj.o;have kb:=ld.o;clear q8 f8;go_wp2_with (first|(with_reducible refine Zs y1 ?_))
   refine VD (v:= .agg (Qb 5 0 0 0)) ?_ rfl ?_
   ·exact VT (p:=6) Zr _ _ (w.heap.size+1) 35 (Qb 5 0 0 0) (0,0) _ Zr (setRow_heap _ _ _ _ _ _ y1) underlying35 rfl Zk
   exact Ud.fin (T':=_) pV.o (by simp[Ow.add,Yi,UD]) kb gA.o Mf.o gh.o VM y1
 obtain⟨rfl,iV⟩:=iV;have YZ:(O2 !=d.ZI)=false:=by rw[iV,bne_self_eq_false]
 have CW:=Zh (jf.o O1 w7.drew (wu.o.trans (YI _ _).drew));generalize T.owner O1=tw at *
 clear jf;refine R5 ?_;refine Z_.Zj (d:=19) (S:=(fun w'=>w'.cell? ⟨k,12,none⟩=some (.pointer (some ⟨b,0,none⟩))∧w'.cell? ⟨w,1,none⟩=some (.int .i64 p)∧w'.cell? ⟨eb,5,none⟩=some (.int .u32 P.Yl)∧w'.cell? ⟨eb,12,none⟩=some (.int .i64 d.ZI))) Zk ?_ (fun X7=>?_)
 ·first|exact Py.o _ (wu.o.trans ((YI w7 w7).drew.mono wu.o.size))|exact Py.o _ (Tr wu HBG.o)
 refine YP 0 (h:=YP 1 (h:=YP 2 (h:=YP 3 (h:=YP 4 (h:=YP 5 (h:=YQ 6 [9,8,7] (h:=YP 7 (h:=YP 8 (h:=YP 9 (h:=YP 10 (h:=YP 11 (h:=YP 12 (h:=YP 14 (h:=YP 16 (h:=YQ 13 [18,15] (h:=YQ 17 [18] (h:=?_)))))))))))))))));refine YR 15 (h:=fun K hK=>?_);go_simp;refine CW.o.mono ?_;rintro e w9 ⟨rfl,gG⟩;have HBG:Hid (Below w7 w7 w9):=(YI w7 w7).drew.trans gG;clear gG;go_wp2_with fail
 refine Z_.Y9 hK _ _ ?_ (fun XC=>?_)
 ·first|exact Py.o _ (wu.o.trans ((YI w7 w7).drew.mono wu.o.size))|exact Py.o _ (Tr wu HBG.o)
 clear hK K;try simp only[Z_.pt]
 refine YP 18 (h:=?_);refine YR 19 (h:=fun K hK=>?_);go_simp;refine Z_.Yf hK _ _ Zk ?_;clear hK K;try simp only[Z_.pt]
 refine Z_.Yx Zk ?_ _;refine QZ ?_;have hB9:=Zh (Tr hB7 HBG.o);have kW:=(hB9.o.block _ (ZX iI.o)).trans iI.o;have Em:=(hB9.o.block _ (ZX Lf.o)).trans Lf.o;have yr:=Zh (cV.o.below hB9.o);have A4:Hid (Fr w (fun j=>j=k∨j=b) w w9):=gi.o.trans (Fr.Z6 _ (hB9.o.mono gi.o.size));clear Py CW;by_cases htw:tw=p
 rotate_left
 ·have Zb:(tw !=p)=true:=by rw[RH];exact htw
  have hM:M=Yi 5 0:=by
   rw[HME.o];refine Z3 fun h=>htw ?_
   rw[UW,Sz]at h;exact(LX.o.2 h.1).2
  have hX:X=((Yi 5 0,R),ep):=by rw[HMX.o,hM]
  have pV:=Zh hX;clear HMX HME LX hM hX;go_upto_region 19 with fail
  have q8:w9.cell? ⟨k,6,none⟩=some (.int .i64 c.unknown):=Zc kW 6 rfl;have f8:w9.frozen? ⟨k,6,none⟩=false:=ZP kW 6;have gA:=Zh (Ul yr.o (Fr.setAt (Fr.refl w9 (· = k) w9) 6 (.int .i64 (c.unknown+1))) (UZ kW Zd));have ld:=Zh (VH kW 6 (.int .i64 (c.unknown+1)));have gh:=Zh (A4.o.setCell (p:=⟨k,6,none⟩) (WB (WO rfl)) (.int .i64 (c.unknown+1)));have lj:=Zh ((Mg w9 ⟨k,6,none⟩ (.int .i64 (c.unknown+1)) (w.heap.size+1) (by show _≠k;omega)).trans Em);clear kW Em;go_upto_region 20 with fail
  generalize w9.setCell ⟨k,6,none⟩ (.int .i64 (c.unknown+1))=w8 at *
  have y1:=lj.o;have kb:=ld.o;clear q8 f8;go_wp2_with (first|(with_reducible refine Zs y1 ?_))
  refine VD (v:= .agg (Qb 5 0 0 0)) ?_ rfl ?_
  ·exact VT (p:=6) Zr _ _ (w.heap.size+1) 35 (Qb 5 0 0 0) (0,0) _ Zr (setRow_heap _ _ _ _ _ _ y1) underlying35 rfl Zk
  exact Yt23
 have Zb:(tw !=p)=false:=by rw[htw,bne_self_eq_false]
 have hX:X=(({UD with XX:=⟨1,O1,ep,0⟩,XQ:=P,Wx:=d},R),ep):=by
  rw[HMX.o,HME.o,LX.o.1 ⟨by trivial,htw⟩,iV,Ww rfl];rfl
 have pV:=Zh hX;have y1:=Em;have kb:=kW;clear HMX HME LX hX;go_wp2_with (first|(with_reducible refine Zs y1 ?_))
 refine VD (v:= .agg (Qb 1 O1 ep 0)) ?_ rfl ?_
 ·exact VT (p:=6) Zr _ _ (w.heap.size+1) 35 (Qb 1 O1 ep 0) (0,0) _ Zr (setRow_heap _ _ _ _ _ _ y1) underlying35 rfl Zk
 exact Ud.fin (T':=_) pV.o (by simp[Ow.add,UD]) kb yr.o Mf.o A4.o VM y1
end Go.Proofs.By
namespace Go.Proofs.By
open Go.RowKit Go.Proofs.Heap Go.Proofs
open Go.Proofs.Rm (ZM ZO Vn Zq Wo below_drewN)
def Xa(n at':Int)(key:Int×Int)(Q:List Zx)(m:Nat):List Zx:=XI n at' (fun k=>decide (k=key)) (Q.take m)++Q.drop m
theorem Bp(n at':Int)(key:Int×Int)(Q:List Zx)(m:Nat):(Xa n at' key Q m).length=Q.length:=by
 unfold Xa XI;rw[UG,Tx,SY,Ra];omega
theorem Es(n at':Int)(key:Int×Int)(Q:List Zx):Xa n at' key Q 0=Q:=by
 unfold Xa XI;rw[List.take_zero,List.drop_zero];rfl
theorem Bo(n at':Int)(key:Int×Int)(Q:List Zx){m:Nat}(h:Q.length≤m):Xa n at' key Q m=XI n at' (fun k=>decide (k=key)) Q:=by
 unfold Xa;rw[EM h,List.drop_eq_nil_of_le h,rW]
theorem Er(n at':Int)(key:Int×Int){Q:List Zx}{m:Nat}(hm:m<Q.length):Xa n at' key Q (m+1)=if((Xa n at' key Q m).getD m Wp).fin=n∧Wy ((Xa n at' key Q m).getD m Wp)=key then(Xa n at' key Q m).set m {(Xa n at' key Q m).getD m Wp with fin:=at'}else Xa n at' key Q m:=by
 have hl:(XI n at' (fun k=>decide (k=key)) (Q.take m)).length=m:=by unfold XI;rw[Tx,SY];omega
 have e0:Xa n at' key Q m=XI n at' (fun k=>decide (k=key)) (Q.take m)++Q[m] :: Q.drop (m+1):=by unfold Xa;rw[List.drop_eq_getElem_cons hm]
 have e1:(Xa n at' key Q m).getD m Wp=Q[m]:=by
  rw[e0,Q_,Z1d Zo,hl,Nat.sub_self];rfl
 have e2:Xa n at' key Q (m+1)=XI n at' (fun k=>decide (k=key)) (Q.take m)++(if Q[m].fin=n∧decide (Wy Q[m]=key)=true then{Q[m]with fin:=at'}else Q[m]) :: Q.drop (m+1):=by
  unfold Xa;rw[List.take_succ_eq_append_getElem hm];unfold XI;rw[Nv,cL];rfl
 rw[e1,e2];by_cases h:Q[m].fin=n∧Wy Q[m]=key
 ·rw[ZU h,ZU ⟨h.1,Ww h.2⟩,e0,List.set_append_right _ _ Zo,hl,Nat.sub_self];rfl
 ·rw[Z3 h,Z3 (fun x=>h ⟨x.1,of_decide_eq_true x.2⟩),e0]
theorem mV(B k b:Nat)(oa:Option Addr)(n oc:Nat)(av ev lv uv:Value)(c0 c1 c2 c3:Int)(LS:List Zx)(T:ZO)(was:List Vn)(at':Int)(w:World)
  (OS:w.heap[k]?=some (.cells (Qw oa n oc av ev lv c0 c1 c2 c3 0 0 0 0 (some ⟨b,0,none⟩)) 44 (0,0))) (hR:ZM w b T) (uG:w.ownsRow B 59 4 lv LS.length (LS.flatMap Z8)) (ib:Row w 105 uv was.length (was.flatMap Zq)) :
  Calls prog 43 #[.pointer (some ⟨k,0,none⟩),uv,.int .i64 at'] w fun e w'=>e = .returned (.tuple #[])∧w'.ownsRow B 59 4 lv (RA n at' T was LS).length ((RA n at' T was LS).flatMap Z8)∧Fr w (fun j=>lv.ownBlock=some j) w w':=by
 obtain⟨la,lc,uI,Aa⟩:=Row.Z4 uG;subst uI;obtain⟨ua,uc,rfl⟩:=Row.form ib;have HK:Hid (∀w',Fr w (fun j=>(Value.slice la LS.length lc).ownBlock=some j) w w'→w'.heap[k]?=some (.cells #[.slice oa n oc,av,ev,.slice la LS.length lc,.int .i64 c0,.int .i64 c1,.int .i64 c2,.int .i64 c3,.int .i64 0,.int .i64 0,.int .i64 0,.int .i64 0,.pointer (some ⟨b,0,none⟩)] 44 (0,0))):=fun w' hf=>(hf.block k (ZX OS) (fun e=>Y7 uG Zd _ _ _ e OS)).trans OS
 have HR:Hid (∀w',Fr w (fun j=>(Value.slice la LS.length lc).ownBlock=some j) w w'→ZM w' b T):=fun w' hf=>Ul hR hf (Ro uG Zd)
 have HU:Hid (∀w',Fr w (fun j=>(Value.slice la LS.length lc).ownBlock=some j) w w'→Row w' 105 (.slice ua was.length uc) was.length (was.flatMap Zq)):=fun w' hf=>Row.fr ib hf (Zw _) (Y7 uG Zd)
 have HL:=Zh uG;have uH:=(Row.Z4 uG).len;have hwl:=ib.len;rw[MB];clear OS hR uG ib;go_enter func43,ntmps43;go_wp2_with fail
 go_loopw [11] (fun s11 w'=>∃i:Nat,i≤was.length∧s11 = .int .i64 (i:Int)∧w'.ownsRow B 59 4 (.slice la LS.length lc) LS.length ((RA n at' T (was.take i) LS).flatMap Z8)∧Fr w (fun j=>(Value.slice la LS.length lc).ownBlock=some j) w w') (fun s11 _=>was.length-(intOf s11).toNat)
 case atStart=>exact⟨0,Zo,rfl,HL.o,Fr.refl _ _ _⟩
 case round=>
  obtain⟨i,hi,rfl,YG,Wm⟩:=hrel;have T8:=Zh Wm;clear HL;by_cases lI:i<was.length
  ·obtain⟨g',off',e1,V7⟩:=TI Zq 4 (fun _=>rfl) (HU.o _ Wm) Zo;cases e1;have hx:was[i]?=some was[i]:=Ve lI;have V7:=V7 i _ hx;have HT:=Zh (QX hx);clear hx;generalize was[i]=x at *
   have Lr:=Zh (u9 n at' T (was.take i) x LS);have hQl:=MB n at' T (was.take i) LS;generalize RA n at' T (was.take i) LS=Q at *
   have NA:wr.rangeAt g' (off'+i*4) (Qk x.peer x.source x.want x.ZV):=fun m v hm=>(V7 m (by have h:=(List.getElem?_eq_some_iff.1 hm).1;simpa using h)).trans hm
   have hiI:(i:Int)<(was.length:Int):=P6.2 lI;have hz:=Z9 wr (.cells (Qk 0 0 0 false) 105);have Io:=setRow_heap _ _ _ (Qk x.peer x.source x.want x.ZV) _ _ hz;have P5:Hid (Below wr wr ((wr.alloc (.cells (Qk 0 0 0 false) 105)).setRow wr (Qk x.peer x.source x.want x.ZV))):=Z0 (Z' wr _) (Zw _) _;have GH:Hid (Fr w (fun j=>(Value.slice la LS.length lc).ownBlock=some j) w ((wr.alloc (.cells (Qk 0 0 0 false) 105)).setRow wr (Qk x.peer x.source x.want x.ZV))):=Wm.trans (Fr.Z6 _ (P5.o.mono Wm.size));have bK:=Zh (Yv YG P5.o);have gU:=HK.o _ GH.o;clear V7 Wm YG T8 P5;go_upto_region 3 with(first|(with_reducible refine Zm NA underlying105 ?_)|(with_reducible refine Zs hz ?_))
   clear hz NA;have iT:=ZX Io;generalize((wr.alloc (.cells (Qk 0 0 0 false) 105)).setRow wr (Qk x.peer x.source x.want x.ZV))=w5 at *
   generalize wr.heap.size=kb at *
   have jU:=Zh Io;obtain⟨xp,xs,xw,xz⟩:=x;have eT:=Zh (HR.o _ GH.o);have CB:=Zh (Wo b T xp xs w5.drew (eT.o.below (YI w5 w5).drew));have HOO:Hid (PM n at' T Q ⟨xp,xs,xw,xz⟩=if 0≤T.Y6 xp xs then Q else XI n at' (fun k=>decide (k=(xp,xs))) Q):=rfl;generalize PM n at' T Q ⟨xp,xs,xw,xz⟩=Q2 at *
   generalize T.Y6 xp xs=sa at *
   have ZB:Hid (∀w',Below w5 w5 w'→w'.cell? ⟨k,12,none⟩=some (.pointer (some ⟨b,0,none⟩))∧w'.cell? ⟨kb,0,none⟩=some (.int .i64 xp)∧w'.cell? ⟨kb,1,none⟩=some (.int .i64 xs)):=fun w' h=>by
    have a1:=(h.block _ (ZX gU)).trans gU;have a2:=(h.block _ iT).trans jU.o;exact⟨Zc a1 12 rfl,Zc a2 0 rfl,Zc a2 1 rfl⟩
   clear Io;refine R5 ?_;refine Z_.Zj (d:=8) (S:=(fun w'=>w'.cell? ⟨k,12,none⟩=some (.pointer (some ⟨b,0,none⟩))∧w'.cell? ⟨kb,0,none⟩=some (.int .i64 xp)∧w'.cell? ⟨kb,1,none⟩=some (.int .i64 xs))) Zk ?_ (fun X7=>?_)
   ·exact ZB.o _ (YI _ _).drew
   refine YP 0 (h:=YP 1 (h:=YP 2 (h:=YP 4 (h:=YP 6 (h:=YK 3 (h:=YK 5 (h:=YK 7 (h:=?_))))))));refine YR 8 (h:=fun K hK=>?_);go_simp;refine CB.o.mono ?_;rintro e w7 ⟨rfl,MV⟩;have HBC:=Zh MV;clear MV;go_wp2_with fail
   refine Z_.Yf hK _ _ Zk ?_;clear hK K;try simp only[Z_.pt]
   refine YP 9 (h:=?_);refine Z_.Yx Zk ?_ _;refine QZ ?_;clear ZB CB;have Ah:Hid (Below w5 w5 w7):=(YI w5 w5).drew.trans HBC.o;have iH:Hid (Fr w (fun j=>(Value.slice la LS.length lc).ownBlock=some j) w w7):=GH.o.trans (Fr.Z6 _ (Ah.o.mono GH.o.size));have HO7:=Zh (Yv bK.o Ah.o);have hx7:=(Ah.o.block _ iT).trans jU.o;have hkb7:=OB iT Ah.o.size;clear HBC Ah GH bK jU gU eT iT;by_cases hs:0≤sa
   ·have b1:decide (0≤sa)=true:=Ww hs;have Po:Hid (Q2=Q):=by show _=_;rw[HOO.o,ZU hs]
    clear HOO;go_wp2_with fail
    go_roundw
    case rel=>exact⟨i+1,Zo,Zn,by rw[HT.o,Lr.o,Po.o];exact HO7.o,iH.o⟩
    case measure=>simp[intOf];omega
   have b1:decide (0≤sa)=false:=Wz hs;have Po:Hid (Q2=XI n at' (fun k=>decide (k=(xp,xs))) Q):=by show _=_;rw[HOO.o,Z3 hs]
   clear HOO;have Cz:=HK.o _ iH.o;have k3:w7.cell? ⟨k,3,none⟩=some (.slice la LS.length lc):=Zc Cz 3 rfl;clear Cz;go_wp2_with fail
   go_loopw [30] (fun s30 w'=>∃m:Nat,m≤LS.length∧s30 = .int .i64 (m:Int)∧w'.ownsRow B 59 4 (.slice la LS.length lc) LS.length ((Xa n at' (xp,xs) Q m).flatMap Z8)∧Fr w7 (fun j=>(Value.slice la LS.length lc).ownBlock=some j) w7 w') (fun s30 _=>LS.length-(intOf s30).toNat)
   case atStart=>exact⟨0,Zo,rfl,by rw[Es];exact HO7.o,Fr.refl _ _ _⟩
   case round=>
    obtain⟨m,hm,rfl,YG,Wm⟩:=hrel;have HF8:Hid (Fr w (fun j=>(Value.slice la LS.length lc).ownBlock=some j) w wr):=iH.o.trans (Wm.mono iH.o.size (fun _ _ h=>h));have HFI:=Zh Wm;have LX:=Zh YG;clear k3;by_cases Mj:m<LS.length
    ·have gV:=HK.o _ HF8.o;have r0:wr.cell? ⟨k,0,none⟩=some (.slice oa n oc):=Zc gV 0 rfl;have r3:wr.cell? ⟨k,3,none⟩=some (.slice la LS.length lc):=Zc gV 3 rfl;have hx8:=(Wm.block _ hkb7 (fun e=>Y7 HO7.o Zd _ _ _ e hx7)).trans hx7;have q0:wr.cell? ⟨kb,0,none⟩=some (.int .i64 xp):=Zc hx8 0 rfl;have q1:wr.cell? ⟨kb,1,none⟩=some (.int .i64 xs):=Zc hx8 1 rfl;obtain⟨g,c9,cur,e9,-,Ij⟩:=LQ YG Zo;cases e9;have hPl:=Bp n at' (xp,xs) Q m;obtain⟨y0,y1,y3⟩:=sK YG (m:=m) Zo;have fz:wr.frozen? ⟨g,m*4+3,none⟩=false:=ZP Ij _;have wN:=Er n at' (xp,xs) (Q:=Q) (m:=m) Zo;generalize hP:Xa n at' (xp,xs) Q m=P at *
     clear hP;have lZ:=FV at' P m Zo;have lL:(m:Int)<(LS.length:Int):=P6.2 Mj;have Ax:=Zh wN;have D5:=Zh lZ;generalize P.getD m Wp=z at *
     obtain⟨zp,zs,zb,zf⟩:=z;dsimp only[Wy]at y0 y1 y3 Ax D5;clear YG Wm gV hx8 Ij lZ wN;go_upto_region 7 with fail
     by_cases hc:(zp=xp∧zs=xs)∧zf=(n:Int)
     ·obtain⟨⟨rfl,rfl⟩,rfl⟩:=hc;have jJ:Hid (Xa n at' (zp,zs) Q (m+1)=P.set m {peer:=zp,source:=zs,Mr:=zb,fin:=at'}):=by show _=_;rw[Ax.o];exact ZU ⟨rfl,rfl⟩
      have HSW:Hid (∀w',Below wr wr w'→(w'.setCell ⟨g,m*4+3,none⟩ (.int .i64 at')).ownsRow B 59 4 (.slice (some ⟨g,0,none⟩) LS.length lc) LS.length ((P.set m {peer:=zp,source:=zs,Mr:=zb,fin:=at'}).flatMap Z8)):=fun w' hb=>by
       have h2:=O8 (Yv LX.o hb) Zo (m*4+3) (.int .i64 at');rw[D5.o]at h2;exact h2
      clear Ax;go_quiet (fail)
      go_wp2;go_roundw
      case rel=>
       refine⟨m+1,Zo,Zn,?_,(HFI.o.trans (Fr.Z6 _ (below_drewN (YI _ _) _ |>.mono HFI.o.size))).setCell (p:=⟨g,m*4+3,none⟩) (WB rfl) _⟩;rw[jJ.o];exact HSW.o _ (below_drewN (YI _ _) _)
      case measure=>simp[intOf];omega
     ·have jJ:Hid (Xa n at' (xp,xs) Q (m+1)=P):=by show _=_;rw[Ax.o];exact Z3 (fun h=>hc ⟨by have h2:=h.2;rw[Prod.mk.injEq]at h2;exact h2,h.1⟩)
      clear Ax D5;have TN:zp≠xp∨(zp=xp∧zs≠xs)∨(zp=xp∧zs=xs∧zf≠(n:Int)):=by by_cases a:zp=xp <;> by_cases b:zs=xs <;> by_cases c:zf=(n:Int) <;> simp[a,b,c] <;> exact hc ⟨⟨a,b⟩,c⟩
      clear hc;rcases TN with h|⟨rfl,h⟩|⟨rfl,rfl,h⟩
      case' inl=>have e1:(zp==xp)=false:=by rw[WM];exact h
      case' inr.inl=>have e1:(zs==xs)=false:=by rw[WM];exact h
      case' inr.inr=>have e1:(zf==(n:Int))=false:=by rw[WM];exact h
      all_goals
       clear h;go_quiet (fail)
       go_wp2;go_roundw
       case rel=>exact⟨m+1,Zo,Zn,by rw[jJ.o];exact Yv LX.o (below_drewN (YI _ _) _),HFI.o.trans (Fr.Z6 _ ((below_drewN (YI _ _) _).mono HFI.o.size))⟩
       case measure=>simp[intOf];omega
    ·have hA:=Bo n at' (xp,xs) Q (m:=m) Zo;rw[hA]at YG;have jI:=Zh YG;clear YG Wm LX hA;go_wp2;go_roundw
     case rel=>exact⟨i+1,Zo,Zn,by rw[HT.o,Lr.o,Po.o];exact jI.o,HF8.o⟩
     case measure=>simp[intOf];omega
  ·have hT:was.take i=was:=EM Zo;rw[hT]at YG;have jI:=Zh YG;clear YG Wm hT;go_wp2;first|refine bodyPost_end (results_none Zr _ _ _) rfl ?_|refine VD (results_none Zr _ _ _) rfl ?_
   exact⟨rfl,jI.o,T8.o⟩
open Go.Proofs.Rm (YD YF Room ZR Inv WG YN OpV XJ)
open Go.Proofs.ND (Xu)
open Go.Proofs.Mem
end Go.Proofs.By
