/- Part of a proof. -/
import Derived.Test.YtpdjhlcbcomdkaaGreatDoorT25
set_option linter.unusedVariables false
set_option linter.unusedSimpArgs false
set_option maxRecDepth 100000
set_option maxHeartbeats 16000000
open Go Go.Q Go.Qr Go.Proofs.Tryz
namespace Go.Proofs.By
open Go.RowKit Go.Proofs.Heap Go.Proofs
open Go.Proofs.Rm (ZM ZO Vn WA Inv Wn Room XJ)
open Go.Proofs.ND (Xu)
open Go.Proofs.Mem
theorem LN(L:List WE):∀k,k≤L.length→∀z∈Zu L L.length k,1≤z.peer∧z.Mr<z.fin∧z.Mr<k
 | 0,_,z,hz=>by cases hz
 | k+1,hk,z,hz=>by
  obtain⟨hLI,h⟩:=FY L L.length (k:=k) Zo Zo (Dj L k Zo);have ih:=LN L k Zo;rcases h with⟨dead,e⟩|⟨-,-,e⟩
  ·rw[e]at hz;unfold XI at hz;obtain⟨y,hy,rfl⟩:=wI.1 hz;obtain⟨h1,h2,h3⟩:=ih y hy;split
   ·exact⟨h1,h3,by show y.Mr<_;omega⟩
   ·exact⟨h1,h2,Zo⟩
  ·rcases EN.1 (e▸hz)with h1|h1
   ·obtain⟨h1,h2,h3⟩:=ih z h1;exact⟨h1,h2,Zo⟩
   ·rw[J7]at h1;have h2:=(hLI.iff (Wy z)).2 ⟨z,hz,rfl,by rw[h1]⟩;obtain⟨p,n,h3,h4,-⟩:=Rm.Rc.1 h2;have h5:z.peer=p:=congrArg Prod.fst h3;rw[h1]at h5 ⊢;dsimp only at h5 ⊢;omega
def tT(w:World)(k:Nat)(L:List WE):Prop:=L.length≤256∧∃(w0:World) (b:Nat) (vs:Option Addr) (vc:Nat) (av ev lv:Value) (E:List Ag) (T:ZO) (R:Room) (ep:Int),SS w0 w k b vs vc av ev lv L L.length E T R ep
structure YC(w:World)(L:List WE)(k g o c g1 o1 c1 g2 o2 c2:Nat):Prop where
 c0:w.cell? ⟨k,0,none⟩=some (.slice (some ⟨g,o,none⟩) L.length c)
 c1:w.cell? ⟨k,1,none⟩=some (.slice (some ⟨g1,o1,none⟩) L.length c1)
 c2:w.cell? ⟨k,2,none⟩=some (.slice (some ⟨g2,o2,none⟩) L.length c2)
 lay:∀j,j<L.length→w.cell? ⟨g,o+j*7+3,none⟩=some (.int .i64 (opAt L j).ZI)
 kd:∀j,j<L.length→w.cell? ⟨g1,o1+j*4,none⟩=some (.int .i64 (Z5 L j).XX.kind)
 so:∀j,j<L.length→w.cell? ⟨g1,o1+j*4+1,none⟩=some (.int .i64 (Z5 L j).XX.source)
 ev:∀j,j<L.length→∃(ca:Option Addr) (cn cc:Nat) (ea:Option Addr) (en ec:Nat) (pa:Option Addr) (pn pc:Nat) (ia:Option Addr) (im ic:Nat),w.rangeAt g2 (o2+j*17) (Sj (MQ L j).kd (MQ L j).pk (MQ L j).ds (.slice ca cn cc) (.slice ea en ec) (.slice pa pn pc) (.slice ia im ic))
theorem qV{w w':World}{g o:Nat}{l:List Value}(h:w.rangeAt g o l)(hb:Below w w w'):w'.rangeAt g o l:=fun m v hm=>ZG (h m v hm) hb
section
variable {w w':World} {k:Nat} {L:List WE}
theorem YC.below{g o c g1 o1 c1 g2 o2 c2:Nat}(h:YC w L k g o c g1 o1 c1 g2 o2 c2)(hb:Below w w w'):YC w' L k g o c g1 o1 c1 g2 o2 c2:=
 ⟨ZG h.c0 hb,ZG h.c1 hb,ZG h.c2 hb,fun j hj=>ZG (h.lay j hj) hb,fun j hj=>ZG (h.kd j hj) hb,fun j hj=>ZG (h.so j hj) hb,fun j hj=>by
  obtain⟨ca,cn,cc,ea,en,ec,pa,pn,pc,ia,im,ic,hr⟩:=h.ev j hj
  exact⟨ca,cn,cc,ea,en,ec,pa,pn,pc,ia,im,ic,qV hr hb⟩⟩
theorem tT.below(h:tT w k L)(hb:Below w w w'):tT w' k L:=by
 obtain⟨h0,w0,b,vs,vc,av,ev,lv,E,T,R,ep,h⟩:=h;exact⟨h0,w0,b,vs,vc,av,ev,lv,E,T,R,ep,h.below hb⟩
theorem tT.is(h:tT w k L)(x:Zx)(at':Int):Calls prog 57 (Qt (some ⟨k,0,none⟩) (Z8 x).toArray at') w fun e w'=>e = .returned (.bool (decide (x∈Zu L L.length L.length)&&there x at'))∧Below w w w':=by
 obtain⟨h0,w0,b,vs,vc,av,ev,lv,E,T,R,ep,h⟩:=h;exact Is_any h h0 x at'
theorem tT.done(h:tT w k L){j:Nat}(hj:j<L.length)(kd pr so:Int):Calls prog 63 #[.pointer (some ⟨k,0,none⟩),.int .i64 (j:Int),.int .i64 kd,.int .i64 pr,.int .i64 so] w fun e w'=>e = .returned (.bool (Zt L j kd pr so))∧Below w w w':=by
 obtain⟨h0,w0,b,vs,vc,av,ev,lv,E,T,R,ep,h⟩:=h;exact jl h hj kd pr so
theorem tT.cells(h:tT w k L)(h0:0<L.length):∃g o c g1 o1 c1 g2 o2 c2,YC w L k g o c g1 o1 c1 g2 o2 c2:=by
 obtain⟨-,w0,b,vs,vc,av,ev,lv,E,T,R,ep,hs⟩:=h;have yt:=Row.Z4 hs.st.XX;obtain⟨aa,ac,ha⟩:=Row.form yt;subst ha;rw[XK]at yt;obtain⟨g1,o1,e1,hat1⟩:=TI VE 4 (fun _=>rfl) (l:=XZ L L.length) yt (by rw[XK];omega);subst e1;obtain⟨g,o,c,e,-,-,-,V7⟩:=Rm.K4 (fun y:WE=>XJ y.x) 7 (fun _=>rfl) Zo hs.ops.row Zo;cases e;have hEl:E.length=L.length:=by have h2:=congrArg List.length hs.A0;rw[Tx]at h2;rw[h2];unfold Fq;rw[Tx,List.length_range]
 have hevr:=Row.Z4 hs.st.A0;obtain⟨ea,ec,he⟩:=Row.form hevr;subst he;obtain⟨g2,o2,e2,pW⟩:=TI Xh 17 (fun _=>rfl) (l:=E) hevr Zo;subst e2;have hA:∀j,j<L.length→(XZ L L.length)[j]?=some (Z5 L j).XX:=fun j hj=>by unfold XZ;rw[List.getElem?_map,List.getElem?_range hj];rfl
 refine⟨g,o,vc,g1,o1,ac,g2,o2,ec,?_,?_,?_,fun j hj=>?_,fun j hj=>?_,fun j hj=>?_,fun j hj=>?_⟩
 ·rw[cell_of hs.st.Y8 0];rfl
 ·rw[cell_of hs.st.Y8 1,XK];rfl
 ·rw[cell_of hs.st.Y8 2,hEl];rfl
 ·have hy:L[j]?=some L[j]:=Ve hj;rw[V7 j _ hy 3 Zo];unfold opAt;rw[hy];rfl
 ·exact hat1 j _ (hA j hj) 0 Zo
 ·exact hat1 j _ (hA j hj) 1 Zo
 ·have hx:E[j]?=some (E[j]'Zo):=Ve Zo;have h3:(E.map (·.e))[j]?=some (E[j]'Zo).e:=by rw[List.getElem?_map,hx];rfl
  rw[hs.A0]at h3;unfold Fq at h3;rw[List.getElem?_map,List.getElem?_range hj]at h3;have h4:(E[j]'Zo).e=MQ L j:=(Option.some.inj h3).symm;have hr:=hs.st.each _ (OC (l:=E) (n:=j) Zo);have hc:=pW j _ hx;generalize(E[j]'Zo)=y at *
  obtain⟨y,cv,xv,pv,iv⟩:=y;dsimp only at h4;subst h4;obtain⟨⟨ca,cc,Hi⟩,⟨ea,ec,dS⟩,⟨pa,pc,My⟩⟩:=Vy.form hr.p;obtain⟨ia,ic,Cx⟩:=YH.form hr.i;dsimp only at Hi dS My Cx;subst Hi;subst dS;subst My;subst Cx;exact⟨ca,_,cc,ea,_,ec,pa,_,pc,ia,_,ic,fun m v hm=>(hc m (by have h:=(List.getElem?_eq_some_iff.1 hm).1;exact h)).trans hm⟩
end
open Go.Proofs.Rm (below_drewN)
section
variable {w:World} {V k:Nat} {ov av mv lv:Value} {L:List WE} {x:Zx} {wv cv qv:Value}
theorem Hy(h:VB w V k ov av mv lv L x wv cv qv){j:Nat}(hj:j<L.length) :
  Calls prog 88 (Qj (some ⟨V,0,none⟩) (j:Int)) w fun e w'=>e = .returned (.bool (XU L x j))∧Below w w w':=by
 obtain⟨g,o,c,rfl,NA⟩:=rX h.XX hj;have v0:w.cell? ⟨V,0,none⟩=some (.pointer (some ⟨k,0,none⟩)):=Zc h.view 0 rfl;have b1:w.cell? ⟨k,1,none⟩=some (.slice (some ⟨g,o,none⟩) L.length c):=Zc h.book 1 rfl;have hVl:=ZX h.view;have HV:=Zh h.view;have HX:Hid (XU L x j=(Wh x j&&decide ((Z5 L j).XX.kind=1)&&decide ((Z5 L j).XX.source=x.source))):=rfl;have Cy:(j:Int)<(L.length:Int):=P6.2 hj;obtain⟨xp,xs,xb,xf⟩:=x;generalize XU L ⟨xp,xs,xb,xf⟩ j=X at *
 generalize(Z5 L j).XX=A at *
 obtain⟨ak,as',ae,ar⟩:=A;dsimp only at HX NA HV;clear h;have hz:=Z9 w (.cells (Qb 0 0 0 0) 35);have Io:=setRow_heap _ _ _ (Qb ak as' ae ar) _ _ hz;have HB:Hid (Below w w ((w.alloc (.cells (Qb 0 0 0 0) 35)).setRow w (Qb ak as' ae ar))):=Z0 (Z' w _) (Zw _) _;go_enter func88,ntmps88;go_upto_region 2 with(first|(with_reducible refine Zm NA underlying35 ?_)|(with_reducible refine Zs (cells:=(Qb ak as' ae ar)) hz ?_))
 clear hz NA v0 b1;have HVV:=Zh ((HB.o.block V hVl).trans HV.o);generalize((w.alloc (.cells (Qb 0 0 0 0) 35)).setRow w (Qb ak as' ae ar))=w5 at *
 have y0:w5.cell? ⟨w,0,none⟩=some (.int .i64 ak):=Zc Io 0 rfl;have y1:w5.cell? ⟨w,1,none⟩=some (.int .i64 as'):=Zc Io 1 rfl;have z2:w5.cell? ⟨V,2,none⟩=some (.int .i64 xs):=Zc HVV.o 2 rfl;have CL:Hid (∀n,Calls prog 115 (Qj (some ⟨V,0,none⟩) (j:Int)) (w5.drewN n) fun e w'=>e = .returned (.bool (Wh ⟨xp,xs,xb,xf⟩ (j:Int)))∧w'=w5.drewN n):=fun n=>(Oz V xp xs xb xf wv cv qv _ (w5.drewN n) HVV.o (j:Int)).mono fun e w' ⟨a,b⟩=>⟨a,b.symm⟩
 generalize Wh ⟨xp,xs,xb,xf⟩ (j:Int)=l at *
 clear Io;cases l with
 | false=>
  exact cx
 | true=>
  by_cases h1:ak=1
  ·subst h1;exact cx
  ·have e1:(ak==1)=false:=by rw[WM];exact h1
   go_quiet ((go_at_call 115;exact Calls.quiet_of_same (CL.o _)))
   have Yg:=Zh (below_drewN HB.o nq);clear CL;go_wp2_with fail
   go_ret;exact⟨by rw[HX.o,Wz h1];rfl,Yg.o⟩
theorem Tw(h:VB w V k ov av mv lv L x wv cv qv){j:Nat}(hj:j<L.length){s:VS}(hs:bO w wv cv qv j s) :
  Calls prog 89 (Qj (some ⟨V,0,none⟩) (j:Int)) w fun e w'=>e = .returned (.bool (VK s (Z5 L j).Wx))∧Below w w w':=by
 obtain⟨g,o,c,a1,n1,c1,a2,n2,c2,a3,n3,c3,rfl,hr⟩:=JC h hj
 have NA:w.rangeAt g (o+j*15+11) (Qd (Z5 L j).Wx.ZI (Z5 L j).Wx.key (Z5 L j).Wx.start (Z5 L j).Wx.frame):=DA hr 11 (fun m v hm=>by
  have h:=(List.getElem?_eq_some_iff.1 hm).1;have h:m<4:=by simpa using h
  rcases m with _|_|_|_|m
  all_goals first|exact hm|omega)
 obtain⟨⟨g1,o1,m1,d1,rfl,l1,e1⟩,⟨g2,o2,m2,d2,rfl,l2,e2⟩,⟨g3,o3,m3,d3,rfl,l3,e3⟩⟩:=hs;have v0:w.cell? ⟨V,0,none⟩=some (.pointer (some ⟨k,0,none⟩)):=Zc h.view 0 rfl;have v5:w.cell? ⟨V,5,none⟩=some (.slice (some ⟨g1,o1,none⟩) m1 d1):=Zc h.view 5 rfl;have v6:w.cell? ⟨V,6,none⟩=some (.slice (some ⟨g2,o2,none⟩) m2 d2):=Zc h.view 6 rfl;have v7:w.cell? ⟨V,7,none⟩=some (.slice (some ⟨g3,o3,none⟩) m3 d3):=Zc h.view 7 rfl;have b2:w.cell? ⟨k,2,none⟩=some (.slice (some ⟨g,o,none⟩) L.length c):=Zc h.book 2 rfl;have HX:Hid (VK s (Z5 L j).Wx=(!s.quiet&&(Z5 L j).Wx.key&&(Z5 L j).Wx.start&&decide ((Z5 L j).Wx.ZI=s.want) && !decide ((Z5 L j).Wx.ZI=s.cur))):=rfl;have Cy:(j:Int)<(L.length:Int):=P6.2 hj;have i1:(j:Int)<(m1:Int):=P6.2 l1;have i2:(j:Int)<(m2:Int):=P6.2 l2;have i3:(j:Int)<(m3:Int):=P6.2 l3;clear h hr;generalize VK s (Z5 L j).Wx=X at *
 generalize(Z5 L j).Wx=D at *
 generalize s.quiet=q at *
 generalize s.want=wt at *
 generalize s.cur=cu at *
 obtain⟨ly,ke,st,fm⟩:=D;dsimp only at HX NA;have hz:=Z9 w (.cells (Qd 0 false false 0) 81);have Io:=setRow_heap _ _ _ (Qd ly ke st fm) _ _ hz;have HB:Hid (Below w w ((w.alloc (.cells (Qd 0 false false 0) 81)).setRow w (Qd ly ke st fm))):=Z0 (Z' w _) (Zw _) _;have KC:Hid (∀(g o:Nat) (u:Value),w.cell? ⟨g,o,none⟩=some u→((w.alloc (.cells (Qd 0 false false 0) 81)).setRow w (Qd ly ke st fm)).cell? ⟨g,o,none⟩=some u):=fun g o u hc=>ZG hc HB.o
 go_enter func89,ntmps89;go_upto_region 2 with(first|(with_reducible refine Zm NA underlying81 ?_)|(with_reducible refine Zs (cells:=(Qd ly ke st fm)) hz ?_))
 clear hz NA v0 b2;replace v5:=KC.o _ _ _ v5;replace v6:=KC.o _ _ _ v6;replace v7:=KC.o _ _ _ v7;replace e1:=KC.o _ _ _ e1;replace e2:=KC.o _ _ _ e2;replace e3:=KC.o _ _ _ e3;clear KC;generalize((w.alloc (.cells (Qd 0 false false 0) 81)).setRow w (Qd ly ke st fm))=w5 at *
 have y0:w5.cell? ⟨w,0,none⟩=some (.int .i64 ly):=Zc Io 0 rfl;have y1:w5.cell? ⟨w,1,none⟩=some (.bool ke):=Zc Io 1 rfl;have y2:w5.cell? ⟨w,2,none⟩=some (.bool st):=Zc Io 2 rfl;clear Io;cases q with
 | true=>
  exact kp
 | false=>
 cases ke with
 | false=>
  exact kp
 | true=>
 cases st with
 | false=>
  exact kp
 | true=>
 by_cases h1:ly=wt
 rotate_left
 ·have f1:(ly==wt)=false:=by rw[WM];exact h1
  go_quiet (fail)
  have Yg:=Zh (below_drewN HB.o nq);go_wp2_with fail
  go_ret;exact⟨by rw[HX.o,Wz h1];rfl,Yg.o⟩
 have f1:(ly==wt)=true:=by rw[beq_iff_eq];exact h1
 by_cases h2:ly=cu
 ·have f2:(ly !=cu)=false:=by rw[bne_eq_false_iff_eq];exact h2
  have H1:=Zh h1;have H2:=Zh h2;clear h1 h2;go_quiet (fail)
  have Yg:=Zh (below_drewN HB.o nq);go_wp2_with fail
  go_ret;exact⟨by rw[HX.o,Ww H1.o,Ww H2.o];rfl,Yg.o⟩
 have f2:(ly !=cu)=true:=by rw[RH];exact h2
 have H1:=Zh h1;have H2:=Zh h2;clear h1 h2;go_quiet (fail)
 have Yg:=Zh (below_drewN HB.o nq);go_wp2_with fail
 go_ret;exact⟨by rw[HX.o,Ww H1.o,Wz H2.o];rfl,Yg.o⟩
end
end Go.Proofs.By
namespace Go.Proofs.By
open Go.RowKit Go.Proofs.Heap Go.Proofs
open Go.Proofs.Rm (below_drewN)
theorem Pc{w:World}{g o:Nat}{xs:List Value}(h:w.rangeAt g o xs)(m:Nat){v:Value}(hm:xs[m]?=some v):w.cell? ⟨g,o+m,none⟩=some v:=h m v hm
section
variable {w:World} {V k:Nat} {ov av mv lv:Value} {L:List WE} {x:Zx} {wv cv qv:Value}
theorem fh(h:VB w V k ov av mv lv L x wv cv qv){j:Nat}(hj:j<L.length) :
  Calls prog 143 (Qj (some ⟨k,0,none⟩) (j:Int)) w fun e w'=>e = .returned (.int .i64 (F5 L j))∧w=w':=by
 obtain⟨g,o,c,rfl,NA⟩:=rX h.XX hj;obtain⟨g',o',c',nm,a1,n1,c1,a2,n2,c2,rfl,Ab⟩:=mU h.ops hj;have b0:w.cell? ⟨k,0,none⟩=some (.slice (some ⟨g',o',none⟩) L.length c'):=Zc h.book 0 rfl;have b1:w.cell? ⟨k,1,none⟩=some (.slice (some ⟨g,o,none⟩) L.length c):=Zc h.book 1 rfl;have a0:=Pc NA 0 rfl;have p0:=Pc Ab 0 rfl;rw[Z1g]at a0 p0;have HX:Hid (F5 L j=if(Z5 L j).XX.kind≠2∨(opAt L j).kind=1 then 0 else(opAt L j).kind):=rfl;have Cy:(j:Int)<(L.length:Int):=P6.2 hj;generalize F5 L j=X at *
 generalize(Z5 L j).XX.kind=ak at *
 generalize(opAt L j).kind=kd at *
 clear h NA Ab;by_cases h1:ak=2
 ·subst h1;by_cases h2:kd=1
  ·subst h2;have VC:Hid (X=0):=by show _=_;rw[HX.o,ZU (WB rfl)]
   exact kj
  ·have VC:Hid (X=kd):=by show _=_;rw[HX.o,Z3 (by rintro(h|h);exact h rfl;exact h2 h)]
   have e2:(kd==1)=false:=by rw[WM];exact h2
   exact kj
 ·have VC:Hid (X=0):=by show _=_;rw[HX.o,ZU (WO h1)]
  have e1:(ak !=2)=true:=by rw[RH];exact h1
  exact kj
end
def XH(s:VS):List Value:=(Qf s.want s.cur s.ZV s.ZN)
theorem J6(sv:VS)(kd q:Int)(w:World) :
  Calls prog 144 (Qq (XH sv).toArray kd q) w fun e w'=>e = .returned (.agg (XH (QP sv kd q)).toArray)∧Below w w w':=by
 have HX:Hid (QP sv kd q=if kd=12 then{sv with want:=q}else if kd=10 then{sv with ZV:=true,cur:= -1}else if kd=11 then{sv with ZV:=false}else sv):=rfl;generalize QP sv kd q=X at *
 obtain⟨a,c,pz,mz⟩:=sv;dsimp only[XH]at HX ⊢;by_cases h1:kd=12
 ·subst h1;have VC:Hid (X=⟨q,c,pz,mz⟩):=by show _=_;rw[HX.o,ZU rfl]
  clear HX;go_enter func144,ntmps144;go_wp2_with fail
  refine VD (v:= .agg (Qf q c pz mz)) ?_ rfl ?_
  ·exact results_cell_row Zr _ _ (w.heap.size+1) 202 (Qf q c pz mz) (0,0) _ Zr (Heap.V4 w _ _).2 underlying202 rfl X_
  exact⟨by rw[VC.o],ZF (Z' w _) (Zw _) _⟩
 by_cases h2:kd=10
 ·subst h2;have VC:Hid (X=⟨a,-1,true,mz⟩):=by show _=_;rw[HX.o,Z3 Zd,ZU rfl]
  clear HX;go_enter func144,ntmps144;go_wp2_with fail
  refine VD (v:= .agg (Qf a (-1) true mz)) ?_ rfl ?_
  ·exact results_cell_row Zr _ _ (w.heap.size+1) 202 (Qf a (-1) true mz) (0,0) _ Zr (Heap.V4 w _ _).2 underlying202 rfl X_
  exact⟨by rw[VC.o],ZF (Z' w _) (Zw _) _⟩
 by_cases h3:kd=11
 ·subst h3;have VC:Hid (X=⟨a,c,false,mz⟩):=by show _=_;rw[HX.o,Z3 Zd,Z3 Zd,ZU rfl]
  clear HX;go_enter func144,ntmps144;go_wp2_with fail
  refine VD (v:= .agg (Qf a c false mz)) ?_ rfl ?_
  ·exact results_cell_row Zr _ _ (w.heap.size+1) 202 (Qf a c false mz) (0,0) _ Zr (Heap.V4 w _ _).2 underlying202 rfl X_
  exact⟨by rw[VC.o],ZF (Z' w _) (Zw _) _⟩
 have VC:Hid (X=⟨a,c,pz,mz⟩):=by show _=_;rw[HX.o,Z3 h1,Z3 h2,Z3 h3]
 have e1:(kd==12)=false:=by rw[WM];exact h1
 have e2:(kd==10)=false:=by rw[WM];exact h2
 have e3:(kd==11)=false:=by rw[WM];exact h3
 clear HX;go_enter func144,ntmps144;go_wp2_with fail
 refine VD (v:= .agg (Qf a c pz mz)) ?_ rfl ?_
 ·exact results_cell_row Zr _ _ (w.heap.size+1) 202 (Qf a c pz mz) (0,0) _ Zr (Heap.V4 w _ _).2 underlying202 rfl X_
 exact⟨by rw[VC.o],ZF (Z' w _) (Zw _) _⟩
theorem Ls(V:Nat)(p s b f:Int)(wv cv qv bv:Value)(w:World)(h:w.heap[V]?=some (.cells #[bv,.int .i64 p,.int .i64 s,.int .i64 b,.int .i64 f,wv,cv,qv] 164 (0,0)))(at':Int) :
  Calls prog 92 (Qj (some ⟨V,0,none⟩) at') w fun e w'=>e = .returned (.bool (there ⟨p,s,b,f⟩ at'))∧w=w':=by
 have c3:w.cell? ⟨V,3,none⟩=some (.int .i64 b):=Zc h 3 rfl;have c4:w.cell? ⟨V,4,none⟩=some (.int .i64 f):=Zc h 4 rfl;have HX:Hid (there ⟨p,s,b,f⟩ at'=(decide (b<at')&&decide (at'≤f))):=rfl;generalize there ⟨p,s,b,f⟩ at'=X at *
 clear h;by_cases h1:b<at'
 ·have d1:decide (b<at')=true:=Ww h1;go_enter func92,ntmps92;go_wp2_with fail
  go_ret;exact⟨by rw[HX.o,d1];rfl,rfl⟩
 ·have d1:decide (b<at')=false:=Wz h1;go_enter func92,ntmps92;go_wp2_with fail
  go_ret;exact⟨by rw[HX.o,d1];rfl,rfl⟩
theorem Lt(w:World)(at':Int):Calls prog 92 (Qj none at') w fun e w'=>e = .returned (.bool false)∧w=w':=by
 go_enter func92,ntmps92;go_wp2_with fail
 go_ret;exact⟨rfl,rfl⟩
theorem pA(V k:Nat)(L:List WE)(x:Zx)(wv cv qv:Value)(w:World)(h:w.heap[V]?=some (.cells (Q7 (some ⟨k,0,none⟩) x.peer x.source x.Mr x.fin wv cv qv) 164 (0,0)))(hr:Oy w wv cv qv (WL L x (L.length+1)))(h0:0≤x.Mr)(h1:x.fin≤L.length)(at':Int) :
  Calls prog 62 (Qj (some ⟨V,0,none⟩) at') w fun e w'=>e = .returned (.int .i64 (if there x at' then(ZC L x at'.toNat).want else -1))∧w=w':=by
 obtain⟨p,s,b,f⟩:=x;dsimp only at h h0 h1;have CT:=Zh (Ls V p s b f wv cv qv _ w h at');by_cases ht:there ⟨p,s,b,f⟩ at'=true
 ·rw[ZU ht];rw[ht]at CT
  have h2:0≤at'∧at'.toNat<L.length+1:=by
   unfold there at ht;simp only[UW,Sz]at ht;omega
  obtain⟨g,o,n,c,hv,hj,hc⟩:=(hr.at (QW L ⟨p,s,b,f⟩ h2.2)).want;obtain⟨j,Mi⟩:∃j:Nat,at'.toNat=j:=⟨_,rfl⟩;have V7:at'=(j:Int):=by omega
  rw[Mi]at hj hc ⊢;subst V7;have Cy:(j:Int)<(n:Int):=P6.2 hj;have v5:w.cell? ⟨V,5,none⟩=some (.slice (some ⟨g,o,none⟩) n c):=by rw[cell_of h 5,←hv];rfl
  generalize(ZC L ⟨p,s,b,f⟩ j).want=z at *
  clear h hr ht hv h2 Mi;go_enter func62,ntmps62;exact AG
 ·rw[Z3 ht];rw[Bool.not_eq_true]at ht;rw[ht]at CT;clear h hr ht;go_enter func62,ntmps62;exact AG
theorem pB(w:World)(at':Int):Calls prog 62 (Qj none at') w fun e w'=>e = .returned (.int .i64 (-1))∧w=w':=by
 have CT:=Zh (Lt w at');go_enter func62,ntmps62;exact AG
theorem j0(V k:Nat)(L:List WE)(x:Zx)(wv cv qv:Value)(w:World)(h:w.heap[V]?=some (.cells (Q7 (some ⟨k,0,none⟩) x.peer x.source x.Mr x.fin wv cv qv) 164 (0,0)))(hr:Oy w wv cv qv (WL L x (L.length+1)))(h0:0≤x.Mr)(h1:x.fin≤L.length)(at':Int) :
  Calls prog 65 (Qj (some ⟨V,0,none⟩) at') w fun e w'=>e = .returned (.int .i64 (if there x at' then(ZC L x at'.toNat).cur else -1))∧w=w':=by
 obtain⟨p,s,b,f⟩:=x;dsimp only at h h0 h1;have CT:=Zh (Ls V p s b f wv cv qv _ w h at');by_cases ht:there ⟨p,s,b,f⟩ at'=true
 ·rw[ZU ht];rw[ht]at CT
  have h2:0≤at'∧at'.toNat<L.length+1:=by
   unfold there at ht;simp only[UW,Sz]at ht;omega
  obtain⟨g,o,n,c,hv,hj,hc⟩:=(hr.at (QW L ⟨p,s,b,f⟩ h2.2)).cur;obtain⟨j,Mi⟩:∃j:Nat,at'.toNat=j:=⟨_,rfl⟩;have V7:at'=(j:Int):=by omega
  rw[Mi]at hj hc ⊢;subst V7;have Cy:(j:Int)<(n:Int):=P6.2 hj;have v5:w.cell? ⟨V,6,none⟩=some (.slice (some ⟨g,o,none⟩) n c):=by rw[cell_of h 6,←hv];rfl
  generalize(ZC L ⟨p,s,b,f⟩ j).cur=z at *
  clear h hr ht hv h2 Mi;go_enter func65,ntmps65;exact AG
 ·rw[Z3 ht];rw[Bool.not_eq_true]at ht;rw[ht]at CT;clear h hr ht;go_enter func65,ntmps65;exact AG
theorem j3(w:World)(at':Int):Calls prog 65 (Qj none at') w fun e w'=>e = .returned (.int .i64 (-1))∧w=w':=by
 have CT:=Zh (Lt w at');go_enter func65,ntmps65;exact AG
theorem tW(V k:Nat)(L:List WE)(x:Zx)(wv cv qv:Value)(w:World)(h:w.heap[V]?=some (.cells (Q7 (some ⟨k,0,none⟩) x.peer x.source x.Mr x.fin wv cv qv) 164 (0,0)))(hr:Oy w wv cv qv (WL L x (L.length+1)))(h0:0≤x.Mr)(h1:x.fin≤L.length)(at':Int) :
  Calls prog 64 (Qj (some ⟨V,0,none⟩) at') w fun e w'=>e = .returned (.bool (if there x at' then(ZC L x at'.toNat).quiet else true))∧w=w':=by
 obtain⟨p,s,b,f⟩:=x;dsimp only at h h0 h1;have CT:=Zh (Ls V p s b f wv cv qv _ w h at');by_cases ht:there ⟨p,s,b,f⟩ at'=true
 ·rw[ZU ht];rw[ht]at CT
  have h2:0≤at'∧at'.toNat<L.length+1:=by
   unfold there at ht;simp only[UW,Sz]at ht;omega
  obtain⟨g,o,n,c,hv,hj,hc⟩:=(hr.at (QW L ⟨p,s,b,f⟩ h2.2)).quiet;obtain⟨j,Mi⟩:∃j:Nat,at'.toNat=j:=⟨_,rfl⟩;have V7:at'=(j:Int):=by omega
  rw[Mi]at hj hc ⊢;subst V7;have Cy:(j:Int)<(n:Int):=P6.2 hj;have v5:w.cell? ⟨V,7,none⟩=some (.slice (some ⟨g,o,none⟩) n c):=by rw[cell_of h 7,←hv];rfl
  generalize(ZC L ⟨p,s,b,f⟩ j).quiet=z at *
  clear h hr ht hv h2 Mi;go_enter func64,ntmps64;exact AG
 ·rw[Z3 ht];rw[Bool.not_eq_true]at ht;rw[ht]at CT;clear h hr ht;go_enter func64,ntmps64;exact AG
theorem tX(w:World)(at':Int):Calls prog 64 (Qj none at') w fun e w'=>e = .returned (.bool true)∧w=w':=by
 have CT:=Zh (Lt w at');go_enter func64,ntmps64;exact AG
structure NX(w w':World)(oc:Array Value)(s:VS):Prop where
 Zf:Below w w w'
 st:w'.heap[w.heap.size]?=some (.cells (XH s).toArray 202 (0,0))
 z:w'.heap[w.heap.size+1]?=some (.cells (Qf 0 0 false false) 202 (0,0))
 op:w'.heap[w.heap.size+2]?=some (.cells oc 32 (0,0))
theorem Gq(s:VS):(XH s).toArray.all (·.oneCell')=true:=by obtain⟨a,b,c,d⟩:=s;kernel_rfl
section
variable {w w1 w2:World} {oc:Array Value} {s:VS}
theorem NX.below(h:NX w w1 oc s)(hb:Below w1 w1 w2):NX w w2 oc s:=⟨h.Zf.trans (hb.mono h.Zf.size),(hb.block _ (ZX h.st)).trans h.st,(hb.block _ (ZX h.z)).trans h.z,(hb.block _ (ZX h.op)).trans h.op⟩
theorem NX.set(h:NX w w1 oc s)(j:Nat)(u:Value)(s':VS)(hs:(XH s).set j u=XH s'):NX w (w1.setCell ⟨w,j,none⟩ u) oc s':=by
 have h2:=VH h.st j u;rw[List.setIfInBounds_toArray,hs]at h2;exact⟨((Fr.Z6 Pz h.Zf).setCell (p:=⟨w,j,none⟩) (WO (Zw _)) _).below,h2,(Mg w1 ⟨w,j,none⟩ u (w.heap.size+1) (by show w.heap.size+1≠w.heap.size;omega)).trans h.z,(Mg w1 ⟨w,j,none⟩ u (w.heap.size+2) (by show w.heap.size+2≠w.heap.size;omega)).trans h.op⟩
theorem NX.row(h:NX w w1 oc s)(s':VS):NX w (w1.setRow w (XH s').toArray) oc s':=
 ⟨Z0 h.Zf (Zw _) _,setRow_heap _ _ _ _ _ _ h.st,by rw[setRow_other _ _ _ _ Zo];exact h.z,by rw[setRow_other _ _ _ _ Zo];exact h.op⟩
end
section
variable {w:World} {V k:Nat} {ov av mv lv:Value} {L:List WE} {x:Zx} {wv cv qv:Value}
theorem py(h:VB w V k ov av mv lv L x wv cv qv){j:Nat}(hj:j<L.length){s:VS}(hs:bO w wv cv qv j s) :
  Calls prog 114 (Qt (some ⟨V,0,none⟩) (XH s).toArray (j:Int)) w fun e w'=>e = .returned (.agg (XH (UQ L x s j)).toArray)∧Below w w w':=by
 obtain⟨g,o,c,nm,a1,n1,c1,a2,n2,c2,hov,Ab⟩:=mU h.ops hj;obtain⟨g9,o9,c9,x1,y1,z1,x2,y2,z2,x3,y3,z3,lO,hmed⟩:=JC h hj;subst hov;subst lO;have CO:=Zh (fun(w':World) (hb:Below w w w')=>fh (h.below hb) hj);have CP:=Zh (fun(w':World) (hb:Below w w w')=>Hy (h.below hb) hj);have CN:=Zh (fun(w':World) (hb:Below w w w')=>Tw (h.below hb) hj (hs.below hb));have zX:Hid (∀w',Below w w w'→w'.heap[V]?=some (.cells (Q7 (some ⟨k,0,none⟩) x.peer x.source x.Mr x.fin wv cv qv) 164 (0,0))):=fun w' hb=>(hb.block _ (ZX h.view)).trans h.view
 have wU:Hid (∀w',Below w w w'→w'.heap[k]?=some (.cells #[.slice (some ⟨g,o,none⟩) L.length c,av,.slice (some ⟨g9,o9,none⟩) L.length c9,lv] 116 (0,0))):=fun w' hb=>(hb.block _ (ZX h.book)).trans h.book
 have HLY:Hid (∀w',Below w w w'→w'.cell? ⟨g9,o9+j*15+11,none⟩=some (.int .i64 (Z5 L j).Wx.ZI)):=fun w' hb=>ZG (Pc hmed 11 rfl) hb
 have v0:w.cell? ⟨V,0,none⟩=some (.pointer (some ⟨k,0,none⟩)):=Zc h.view 0 rfl;have b0:w.cell? ⟨k,0,none⟩=some (.slice (some ⟨g,o,none⟩) L.length c):=Zc h.book 0 rfl;have HX:Hid (UQ L x s j=if XU L x j&&VK s (Z5 L j).Wx then{Tg L x s j with cur:=(Z5 L j).Wx.ZI}else Tg L x s j):=rfl;have HC:Hid (Tg L x s j=if(opAt L j).source=x.source then(if(opAt L j).peer=x.peer∧Wh x j=true then QP (YY s (F5 L j)) (F5 L j) (opAt L j).ZI else YY s (F5 L j))else s):=rfl;have Cy:(j:Int)<(L.length:Int):=P6.2 hj;have hVl:=ZX h.view;have VM:=ZX h.book;clear h hs hmed;generalize UQ L x s j=X at *
 generalize Tg L x s j=C at *
 generalize F5 L j=KD at *
 generalize XU L x j=pk at *
 generalize VK s (Z5 L j).Wx=opn at *
 generalize(Z5 L j).Wx.ZI=ly at *
 obtain⟨xp,xs,xb,xf⟩:=x;generalize opAt L j=O at *
 obtain⟨kd,p,sr,q,nm0,ss0⟩:=O;dsimp only at HC Ab zX;have hop2:((w.alloc (.cells (Qf s.want s.cur s.ZV s.ZN) 202)).alloc (.cells (Qf 0 0 false false) 202)).rangeAt g (o+j*7) (Qa kd p sr q nm a1 n1 c1 a2 n2 c2):=fun m v hm=>ZG (Ab m v hm) (ZF (Z' w _) (Zw _) _)
 dsimp only[XH]
 have hz:((((w.alloc (.cells (Qf s.want s.cur s.ZV s.ZN) 202)).alloc (.cells (Qf 0 0 false false) 202))).alloc (.cells IV 32)).heap[w.heap.size+2]?=some (.cells IV 32 (0,0)):=by
  have h:=Z9 ((w.alloc (.cells (Qf s.want s.cur s.ZV s.ZN) 202)).alloc (.cells (Qf 0 0 false false) 202)) (.cells IV 32);rw[size_alloc,size_alloc]at h;exact h
 have wG:Hid (NX w (((((w.alloc (.cells (Qf s.want s.cur s.ZV s.ZN) 202)).alloc (.cells (Qf 0 0 false false) 202))).alloc (.cells IV 32)).setRow (w.heap.size+2) (Qa kd p sr q nm a1 n1 c1 a2 n2 c2)) (Qa kd p sr q nm a1 n1 c1 a2 n2 c2) s):=by
  obtain⟨q1,q2⟩:=Heap.V4 w (.cells (Qf s.want s.cur s.ZV s.ZN) 202) (.cells (Qf 0 0 false false) 202);have q3:=Z' ((w.alloc (.cells (Qf s.want s.cur s.ZV s.ZN) 202)).alloc (.cells (Qf 0 0 false false) 202)) (.cells IV 32);refine⟨Z0 (ZF (ZF (Z' w _) (Zw _) _) (Zw _) _) Zo _,?_,?_,setRow_heap _ _ _ _ _ _ hz⟩
  ·rw[setRow_other _ _ _ _ Zo];exact(q3.block _ (ZX q1)).trans q1
  ·rw[setRow_other _ _ _ _ Zo];exact(q3.block _ (ZX q2)).trans q2
 go_enter func114,ntmps114;go_upto_region 2 with(first|(with_reducible refine Zm hop2 underlying32 ?_)|(with_reducible refine Zs (cells:=(Qa kd p sr q nm a1 n1 c1 a2 n2 c2)) hz ?_))
 clear hz Ab hop2 v0 b0;generalize(((((w.alloc (.cells (Qf s.want s.cur s.ZV s.ZN) 202)).alloc (.cells (Qf 0 0 false false) 202))).alloc (.cells IV 32)).setRow (w.heap.size+2) (Qa kd p sr q nm a1 n1 c1 a2 n2 c2))=w3 at *
 have o2:w3.cell? ⟨w.heap.size+2,2,none⟩=some (.int .i64 sr):=Zc wG.o.op 2 rfl;have z2':w3.cell? ⟨V,2,none⟩=some (.int .i64 xs):=Zc (zX.o _ wG.o.Zf) 2 rfl;go_quiet (fail)
 have Lm:=Zh (wG.o.below (below_drewN (YI _ _) nq));clear wG o2 z2';generalize w3.drewN nq=w4 at *
 go_upto_if 25 with fail
 go_cut [] (fun wx=>NX w wx (Qa kd p sr q nm a1 n1 c1 a2 n2 c2) C)
 case first=>
  by_cases hs:sr=xs
  rotate_left
  ·have f:(sr==xs)=false:=by rw[WM];exact hs
   have GF:Hid (C=s):=by show _=_;rw[HC.o,Z3 hs]
   go_wp2_with fail
   go_meet;rw[GF.o];exact Lm.o
  have GF:Hid (C=if p=xp∧Wh ⟨xp,xs,xb,xf⟩ j=true then QP (YY s KD) KD q else YY s KD):=by show _=_;rw[HC.o,ZU hs]
  have f:(sr==xs)=true:=by rw[beq_iff_eq];exact hs
  have bw:=Zh (CO.o _ Lm.o.Zf);have v0:w4.cell? ⟨V,0,none⟩=some (.pointer (some ⟨k,0,none⟩)):=Zc (zX.o _ Lm.o.Zf) 0 rfl;clear HC hs;have hKK:KD=4∨KD=9∨KD=8∨(KD≠4∧KD≠9∧KD≠8):=by omega
  rcases hKK with hK|hK|hK|⟨hK4,hK9,hK8⟩
  ·subst hK;have u1:=cell_of Lm.o.st 1;have u3:=cell_of Lm.o.st 3;have f1:=ZP Lm.o.st 1;have f3:=ZP Lm.o.st 3;simp only[XH,SN,Sy,R4]at u1 u3;go_upto_region 9 with(go_at_call 143;refine bw.o.mono ?_;rintro e w' ⟨rfl,rfl⟩)
   have Lp:Hid (NX w (w4.setCell ⟨w,3,none⟩ (.bool false)) (Qa kd p sr q nm a1 n1 c1 a2 n2 c2) (YY s 4)):=Lm.o.set 3 (.bool false) ⟨s.want,s.cur,s.ZV,false⟩ rfl;clear Lm u1 u3 f1 f3 v0 bw;generalize w4.setCell ⟨w,3,none⟩ (.bool false)=w5 at *
   have p1:w5.cell? ⟨w.heap.size+2,1,none⟩=some (.int .i64 p):=Zc Lp.o.op 1 rfl;have bq:w5.cell? ⟨V,1,none⟩=some (.int .i64 xp):=Zc (zX.o _ Lp.o.Zf) 1 rfl;by_cases hp:p=xp
   rotate_left
   ·have fp:(p==xp)=false:=by rw[WM];exact hp
    have GG:Hid (C=YY s 4):=by show _=_;rw[GF.o,Z3 (fun h=>hp h.1)]
    go_quiet (fail)
    exact kv
   have fp:(p==xp)=true:=by rw[beq_iff_eq];exact hp
   have CL:Hid (∀n,Calls prog 115 (Qj (some ⟨V,0,none⟩) (j:Int)) (w5.drewN n) fun e w'=>e = .returned (.bool (Wh ⟨xp,xs,xb,xf⟩ (j:Int)))∧w'=w5.drewN n):=fun n=>(Oz V xp xs xb xf wv cv qv _ (w5.drewN n) (zX.o w5 Lp.o.Zf) (j:Int)).mono fun e w' ⟨a,b⟩=>⟨a,b.symm⟩
   generalize Wh ⟨xp,xs,xb,xf⟩ (j:Int)=l at *
   cases l with
   | false=>
    have GG:Hid (C=YY s 4):=by show _=_;rw[GF.o,Z3 (fun h=>absurd h.2 Zd)]
    exact fA
   | true=>
    have GG:Hid (C=QP (YY s 4) 4 q):=by show _=_;rw[GF.o,ZU ⟨hp,rfl⟩]
    go_quiet ((go_at_call 115;exact Calls.quiet_of_same (CL.o _)))
    have Hc:=Zh (Lp.o.below (below_drewN (YI _ _) nq));clear p1 bq CL Lp;generalize w5.drewN nq=w6 at *
    have ZB:Hid (∀w',Below w6 w6 w'→w'.rangeAt w 0 (Qf (YY s 4).want (YY s 4).cur (YY s 4).ZV (YY s 4).ZN)∧w'.cell? ⟨V,0,none⟩=some (.pointer (some ⟨k,0,none⟩))∧w'.cell? ⟨w.heap.size+2,3,none⟩=some (.int .i64 q)∧Below w6 w6 w'):=fun w' hb=>
     ⟨fun m v hm=>by rw[PW,cell_of (Hc.o.below hb).st m];simpa[XH]using hm,Zc (zX.o _ (Hc.o.below hb).Zf) 0 rfl,by rw[cell_of (Hc.o.below hb).op 3];rfl,hb⟩
    have COP:=Zh (CO.o _ (Hc.o.below (YI _ _).drew).Zf);have jf:=Zh (J6 (YY s 4) 4 q w6.drew);go_upto_region 10 with fail
    refine R5 ?_;refine Z_.Zj (d:=10) (S:=(fun w'=>w'.rangeAt w 0 (Qf (YY s 4).want (YY s 4).cur (YY s 4).ZV (YY s 4).ZN)∧w'.cell? ⟨V,0,none⟩=some (.pointer (some ⟨k,0,none⟩))∧w'.cell? ⟨w.heap.size+2,3,none⟩=some (.int .i64 q)∧Below w6 w6 w')) X_ ?_ (fun _=>?_)
    ·exact ZB.o _ (YI _ _).drew
    refine YP 1 (h:=YP 2 (h:=YP 3 (h:=YP 5 (h:=YP 7 (h:=?_)))));refine Z_.tk 0 ?_ rfl ?_ <| ?_
    rotate_left
    ·intro wS Ub;(try dsimp only at Ub)
     refine(Xq 202 (.tmp 4) ?_ w 0 ?_ (Qf (YY s 4).want (YY s 4).cur (YY s 4).ZV (YY s 4).ZN) _ Ub.1 underlying202 rfl X_).trans ?_;all_goals rfl
    try simp only[Z_.pt]
    refine YK 4 (h:=YK 8 (h:=?_));refine YR 6 (h:=fun K hK=>?_);go_simp;refine COP.o.mono ?_;rintro e w' ⟨rfl,rfl⟩;go_wp2_with fail
    refine Z_.Y9 hK _ _ ?_ (fun _=>?_)
    ·exact ZB.o _ xL
    clear hK K;try simp only[Z_.pt]
    refine YR 9 (h:=fun K hK=>?_);go_simp;refine jf.o.mono ?_;rintro e w7 ⟨rfl,MV⟩;have Ah:=Zh ((YI w6 w6).drew.trans MV);clear MV;go_wp2_with fail
    refine Z_.Y9 hK _ _ ?_ (fun _=>?_)
    ·exact ZB.o _ xL
    clear hK K;try simp only[Z_.pt]
    refine YR 10 (h:=fun K hK=>?_);have bJ:=Zh (Hc.o.below Ah.o);refine Sl Zr 202 (.tmp 4) (.tmp 62) Zr Zr w (XH (QP (YY s 4) 4 q)).toArray Zr Zr 202 _ bJ.o.st X_ Zr (Gq _) ?_;exact fG
  ·subst hK;have u1:=cell_of Lm.o.st 1;have u3:=cell_of Lm.o.st 3;have f1:=ZP Lm.o.st 1;have f3:=ZP Lm.o.st 3;simp only[XH,SN,Sy,R4]at u1 u3;go_upto_region 9 with(go_at_call 143;refine bw.o.mono ?_;rintro e w' ⟨rfl,rfl⟩)
   have Lp:Hid (NX w (w4.setCell ⟨w,3,none⟩ (.bool false)) (Qa kd p sr q nm a1 n1 c1 a2 n2 c2) (YY s 9)):=Lm.o.set 3 (.bool false) ⟨s.want,s.cur,s.ZV,false⟩ rfl;clear Lm u1 u3 f1 f3 v0 bw;generalize w4.setCell ⟨w,3,none⟩ (.bool false)=w5 at *
   have p1:w5.cell? ⟨w.heap.size+2,1,none⟩=some (.int .i64 p):=Zc Lp.o.op 1 rfl;have bq:w5.cell? ⟨V,1,none⟩=some (.int .i64 xp):=Zc (zX.o _ Lp.o.Zf) 1 rfl;by_cases hp:p=xp
   rotate_left
   ·have fp:(p==xp)=false:=by rw[WM];exact hp
    have GG:Hid (C=YY s 9):=by show _=_;rw[GF.o,Z3 (fun h=>hp h.1)]
    go_quiet (fail)
    exact kv
   have fp:(p==xp)=true:=by rw[beq_iff_eq];exact hp
   have CL:Hid (∀n,Calls prog 115 (Qj (some ⟨V,0,none⟩) (j:Int)) (w5.drewN n) fun e w'=>e = .returned (.bool (Wh ⟨xp,xs,xb,xf⟩ (j:Int)))∧w'=w5.drewN n):=fun n=>(Oz V xp xs xb xf wv cv qv _ (w5.drewN n) (zX.o w5 Lp.o.Zf) (j:Int)).mono fun e w' ⟨a,b⟩=>⟨a,b.symm⟩
   generalize Wh ⟨xp,xs,xb,xf⟩ (j:Int)=l at *
   cases l with
   | false=>
    have GG:Hid (C=YY s 9):=by show _=_;rw[GF.o,Z3 (fun h=>absurd h.2 Zd)]
    exact fA
   | true=>
    have GG:Hid (C=QP (YY s 9) 9 q):=by show _=_;rw[GF.o,ZU ⟨hp,rfl⟩]
    go_quiet ((go_at_call 115;exact Calls.quiet_of_same (CL.o _)))
    have Hc:=Zh (Lp.o.below (below_drewN (YI _ _) nq));clear p1 bq CL Lp;generalize w5.drewN nq=w6 at *
    have ZB:Hid (∀w',Below w6 w6 w'→w'.rangeAt w 0 (Qf (YY s 9).want (YY s 9).cur (YY s 9).ZV (YY s 9).ZN)∧w'.cell? ⟨V,0,none⟩=some (.pointer (some ⟨k,0,none⟩))∧w'.cell? ⟨w.heap.size+2,3,none⟩=some (.int .i64 q)∧Below w6 w6 w'):=fun w' hb=>
     ⟨fun m v hm=>by rw[PW,cell_of (Hc.o.below hb).st m];simpa[XH]using hm,Zc (zX.o _ (Hc.o.below hb).Zf) 0 rfl,by rw[cell_of (Hc.o.below hb).op 3];rfl,hb⟩
    have COP:=Zh (CO.o _ (Hc.o.below (YI _ _).drew).Zf);have jf:=Zh (J6 (YY s 9) 9 q w6.drew);go_upto_region 10 with fail
    refine R5 ?_;refine Z_.Zj (d:=10) (S:=(fun w'=>w'.rangeAt w 0 (Qf (YY s 9).want (YY s 9).cur (YY s 9).ZV (YY s 9).ZN)∧w'.cell? ⟨V,0,none⟩=some (.pointer (some ⟨k,0,none⟩))∧w'.cell? ⟨w.heap.size+2,3,none⟩=some (.int .i64 q)∧Below w6 w6 w')) X_ ?_ (fun _=>?_)
    ·exact ZB.o _ (YI _ _).drew
    refine YP 1 (h:=YP 2 (h:=YP 3 (h:=YP 5 (h:=YP 7 (h:=?_)))));refine Z_.tk 0 ?_ rfl ?_ <| ?_
    rotate_left
    ·intro wS Ub;(try dsimp only at Ub)
     refine(Xq 202 (.tmp 4) ?_ w 0 ?_ (Qf (YY s 9).want (YY s 9).cur (YY s 9).ZV (YY s 9).ZN) _ Ub.1 underlying202 rfl X_).trans ?_;all_goals rfl
    try simp only[Z_.pt]
    refine YK 4 (h:=YK 8 (h:=?_));refine YR 6 (h:=fun K hK=>?_);go_simp;refine COP.o.mono ?_;rintro e w' ⟨rfl,rfl⟩;go_wp2_with fail
    refine Z_.Y9 hK _ _ ?_ (fun _=>?_)
    ·exact ZB.o _ xL
    clear hK K;try simp only[Z_.pt]
    refine YR 9 (h:=fun K hK=>?_);go_simp;refine jf.o.mono ?_;rintro e w7 ⟨rfl,MV⟩;have Ah:=Zh ((YI w6 w6).drew.trans MV);clear MV;go_wp2_with fail
    refine Z_.Y9 hK _ _ ?_ (fun _=>?_)
    ·exact ZB.o _ xL
    clear hK K;try simp only[Z_.pt]
    refine YR 10 (h:=fun K hK=>?_);have bJ:=Zh (Hc.o.below Ah.o);refine Sl Zr 202 (.tmp 4) (.tmp 62) Zr Zr w (XH (QP (YY s 9) 9 q)).toArray Zr Zr 202 _ bJ.o.st X_ Zr (Gq _) ?_;exact fG
  ·subst hK;have u1:=cell_of Lm.o.st 1;have u3:=cell_of Lm.o.st 3;have f1:=ZP Lm.o.st 1;have f3:=ZP Lm.o.st 3;simp only[XH,SN,Sy,R4]at u1 u3;go_upto_region 9 with(go_at_call 143;refine bw.o.mono ?_;rintro e w' ⟨rfl,rfl⟩)
   have Lp:Hid (NX w ((w4.setCell ⟨w,3,none⟩ (.bool true)).setCell ⟨w,1,none⟩ (.int .i64 (-1))) (Qa kd p sr q nm a1 n1 c1 a2 n2 c2) (YY s 8)):=(Lm.o.set 3 (.bool true) ⟨s.want,s.cur,s.ZV,true⟩ rfl).set 1 (.int .i64 (-1)) ⟨s.want,-1,s.ZV,true⟩ rfl;clear Lm u1 u3 f1 f3 v0 bw;generalize(w4.setCell ⟨w,3,none⟩ (.bool true)).setCell ⟨w,1,none⟩ (.int .i64 (-1))=w5 at *
   have p1:w5.cell? ⟨w.heap.size+2,1,none⟩=some (.int .i64 p):=Zc Lp.o.op 1 rfl;have bq:w5.cell? ⟨V,1,none⟩=some (.int .i64 xp):=Zc (zX.o _ Lp.o.Zf) 1 rfl;by_cases hp:p=xp
   rotate_left
   ·have fp:(p==xp)=false:=by rw[WM];exact hp
    have GG:Hid (C=YY s 8):=by show _=_;rw[GF.o,Z3 (fun h=>hp h.1)]
    go_quiet (fail)
    exact kv
   have fp:(p==xp)=true:=by rw[beq_iff_eq];exact hp
   have CL:Hid (∀n,Calls prog 115 (Qj (some ⟨V,0,none⟩) (j:Int)) (w5.drewN n) fun e w'=>e = .returned (.bool (Wh ⟨xp,xs,xb,xf⟩ (j:Int)))∧w'=w5.drewN n):=fun n=>(Oz V xp xs xb xf wv cv qv _ (w5.drewN n) (zX.o w5 Lp.o.Zf) (j:Int)).mono fun e w' ⟨a,b⟩=>⟨a,b.symm⟩
   generalize Wh ⟨xp,xs,xb,xf⟩ (j:Int)=l at *
   cases l with
   | false=>
    have GG:Hid (C=YY s 8):=by show _=_;rw[GF.o,Z3 (fun h=>absurd h.2 Zd)]
    exact fA
   | true=>
    have GG:Hid (C=QP (YY s 8) 8 q):=by show _=_;rw[GF.o,ZU ⟨hp,rfl⟩]
    go_quiet ((go_at_call 115;exact Calls.quiet_of_same (CL.o _)))
    have Hc:=Zh (Lp.o.below (below_drewN (YI _ _) nq));clear p1 bq CL Lp;generalize w5.drewN nq=w6 at *
    have ZB:Hid (∀w',Below w6 w6 w'→w'.rangeAt w 0 (Qf (YY s 8).want (YY s 8).cur (YY s 8).ZV (YY s 8).ZN)∧w'.cell? ⟨V,0,none⟩=some (.pointer (some ⟨k,0,none⟩))∧w'.cell? ⟨w.heap.size+2,3,none⟩=some (.int .i64 q)∧Below w6 w6 w'):=fun w' hb=>
     ⟨fun m v hm=>by rw[PW,cell_of (Hc.o.below hb).st m];simpa[XH]using hm,Zc (zX.o _ (Hc.o.below hb).Zf) 0 rfl,by rw[cell_of (Hc.o.below hb).op 3];rfl,hb⟩
    have COP:=Zh (CO.o _ (Hc.o.below (YI _ _).drew).Zf);have jf:=Zh (J6 (YY s 8) 8 q w6.drew);go_upto_region 10 with fail
    refine R5 ?_;refine Z_.Zj (d:=10) (S:=(fun w'=>w'.rangeAt w 0 (Qf (YY s 8).want (YY s 8).cur (YY s 8).ZV (YY s 8).ZN)∧w'.cell? ⟨V,0,none⟩=some (.pointer (some ⟨k,0,none⟩))∧w'.cell? ⟨w.heap.size+2,3,none⟩=some (.int .i64 q)∧Below w6 w6 w')) X_ ?_ (fun _=>?_)
    ·exact ZB.o _ (YI _ _).drew
    refine YP 1 (h:=YP 2 (h:=YP 3 (h:=YP 5 (h:=YP 7 (h:=?_)))));refine Z_.tk 0 ?_ rfl ?_ <| ?_
    rotate_left
    ·intro wS Ub;(try dsimp only at Ub)
     refine(Xq 202 (.tmp 4) ?_ w 0 ?_ (Qf (YY s 8).want (YY s 8).cur (YY s 8).ZV (YY s 8).ZN) _ Ub.1 underlying202 rfl X_).trans ?_;all_goals rfl
    try simp only[Z_.pt]
    refine YK 4 (h:=YK 8 (h:=?_));refine YR 6 (h:=fun K hK=>?_);go_simp;refine COP.o.mono ?_;rintro e w' ⟨rfl,rfl⟩;go_wp2_with fail
    refine Z_.Y9 hK _ _ ?_ (fun _=>?_)
    ·exact ZB.o _ xL
    clear hK K;try simp only[Z_.pt]
    refine YR 9 (h:=fun K hK=>?_);go_simp;refine jf.o.mono ?_;rintro e w7 ⟨rfl,MV⟩;have Ah:=Zh ((YI w6 w6).drew.trans MV);clear MV;go_wp2_with fail
    refine Z_.Y9 hK _ _ ?_ (fun _=>?_)
    ·exact ZB.o _ xL
    clear hK K;try simp only[Z_.pt]
    refine YR 10 (h:=fun K hK=>?_);have bJ:=Zh (Hc.o.below Ah.o);refine Sl Zr 202 (.tmp 4) (.tmp 62) Zr Zr w (XH (QP (YY s 8) 8 q)).toArray Zr Zr 202 _ bJ.o.st X_ Zr (Gq _) ?_;exact fG
  ·have g4:(KD==4)=false:=by rw[WM];exact hK4
   have g9:(KD==9)=false:=by rw[WM];exact hK9
   have g8:(KD==8)=false:=by rw[WM];exact hK8
   have nT:Hid (YY s KD=s):=by show _=_;unfold YY;rw[Z3 Zo,Z3 hK8]
   have HC3:Hid (C=if p=xp∧Wh ⟨xp,xs,xb,xf⟩ j=true then QP s KD q else s):=by show _=_;rw[GF.o,nT.o]
   clear GF nT;have GF:=HC3;clear HC3;go_upto_region 9 with(go_at_call 143;refine bw.o.mono ?_;rintro e w' ⟨rfl,rfl⟩)
   have Lp:=Lm;clear Lm v0 bw;obtain⟨w5,rfl⟩:∃W:World,W=w4:=⟨_,rfl⟩;have p1:w5.cell? ⟨w.heap.size+2,1,none⟩=some (.int .i64 p):=Zc Lp.o.op 1 rfl;have bq:w5.cell? ⟨V,1,none⟩=some (.int .i64 xp):=Zc (zX.o _ Lp.o.Zf) 1 rfl;by_cases hp:p=xp
   rotate_left
   ·have fp:(p==xp)=false:=by rw[WM];exact hp
    have GG:Hid (C=s):=by show _=_;rw[GF.o,Z3 (fun h=>hp h.1)]
    go_quiet (fail)
    exact kv
   have fp:(p==xp)=true:=by rw[beq_iff_eq];exact hp
   have CL:Hid (∀n,Calls prog 115 (Qj (some ⟨V,0,none⟩) (j:Int)) (w5.drewN n) fun e w'=>e = .returned (.bool (Wh ⟨xp,xs,xb,xf⟩ (j:Int)))∧w'=w5.drewN n):=fun n=>(Oz V xp xs xb xf wv cv qv _ (w5.drewN n) (zX.o w5 Lp.o.Zf) (j:Int)).mono fun e w' ⟨a,b⟩=>⟨a,b.symm⟩
   generalize Wh ⟨xp,xs,xb,xf⟩ (j:Int)=l at *
   cases l with
   | false=>
    have GG:Hid (C=s):=by show _=_;rw[GF.o,Z3 (fun h=>absurd h.2 Zd)]
    exact fA
   | true=>
    have GG:Hid (C=QP (s) KD q):=by show _=_;rw[GF.o,ZU ⟨hp,rfl⟩]
    go_quiet ((go_at_call 115;exact Calls.quiet_of_same (CL.o _)))
    have Hc:=Zh (Lp.o.below (below_drewN (YI _ _) nq));clear p1 bq CL Lp;generalize w5.drewN nq=w6 at *
    have ZB:Hid (∀w',Below w6 w6 w'→w'.rangeAt w 0 (Qf (s).want (s).cur (s).ZV (s).ZN)∧w'.cell? ⟨V,0,none⟩=some (.pointer (some ⟨k,0,none⟩))∧w'.cell? ⟨w.heap.size+2,3,none⟩=some (.int .i64 q)∧Below w6 w6 w'):=fun w' hb=>
     ⟨fun m v hm=>by rw[PW,cell_of (Hc.o.below hb).st m];simpa[XH]using hm,Zc (zX.o _ (Hc.o.below hb).Zf) 0 rfl,by rw[cell_of (Hc.o.below hb).op 3];rfl,hb⟩
    have COP:=Zh (CO.o _ (Hc.o.below (YI _ _).drew).Zf);have jf:=Zh (J6 (s) KD q w6.drew);go_upto_region 10 with fail
    refine R5 ?_;refine Z_.Zj (d:=10) (S:=(fun w'=>w'.rangeAt w 0 (Qf (s).want (s).cur (s).ZV (s).ZN)∧w'.cell? ⟨V,0,none⟩=some (.pointer (some ⟨k,0,none⟩))∧w'.cell? ⟨w.heap.size+2,3,none⟩=some (.int .i64 q)∧Below w6 w6 w')) X_ ?_ (fun _=>?_)
    ·exact ZB.o _ (YI _ _).drew
    refine YP 1 (h:=YP 2 (h:=YP 3 (h:=YP 5 (h:=YP 7 (h:=?_)))));refine Z_.tk 0 ?_ rfl ?_ <| ?_
    rotate_left
    ·intro wS Ub;(try dsimp only at Ub)
     refine(Xq 202 (.tmp 4) ?_ w 0 ?_ (Qf (s).want (s).cur (s).ZV (s).ZN) _ Ub.1 underlying202 rfl X_).trans ?_;all_goals rfl
    try simp only[Z_.pt]
    refine YK 4 (h:=YK 8 (h:=?_));refine YR 6 (h:=fun K hK=>?_);go_simp;refine COP.o.mono ?_;rintro e w' ⟨rfl,rfl⟩;go_wp2_with fail
    refine Z_.Y9 hK _ _ ?_ (fun _=>?_)
    ·exact ZB.o _ xL
    clear hK K;try simp only[Z_.pt]
    refine YR 9 (h:=fun K hK=>?_);go_simp;refine jf.o.mono ?_;rintro e w7 ⟨rfl,MV⟩;have Ah:=Zh ((YI w6 w6).drew.trans MV);clear MV;go_wp2_with fail
    refine Z_.Y9 hK _ _ ?_ (fun _=>?_)
    ·exact ZB.o _ xL
    clear hK K;try simp only[Z_.pt]
    refine YR 10 (h:=fun K hK=>?_);have bJ:=Zh (Hc.o.below Ah.o);refine Sl Zr 202 (.tmp 4) (.tmp 62) Zr Zr w (XH (QP (s) KD q)).toArray Zr Zr 202 _ bJ.o.st X_ Zr (Gq _) ?_;exact fG
 case rest=>
  obtain⟨w9,rfl⟩:∃W:World,W=wc:=⟨_,rfl⟩;have HN9:=Zh hcut;clear hcut Lm HC CO;have CP9:=Zh (CP.o _ HN9.o.Zf);obtain⟨ca,cc,cp,cm⟩:=C;cases pk with
  | false=>
   have VC:Hid (X=⟨ca,cc,cp,cm⟩):=by show _=_;rw[HX.o];rfl
   clear HX CN;go_wp2_with (first|(go_at_call 88;refine CP9.o.mono ?_;rintro e Sm ⟨rfl,MU⟩;have JV:=Zh (HN9.o.below MU);have kA:Sm.heap[w.heap.size]?=some (.cells (Qf ca cc cp cm) 202 (0,0)):=JV.o.st;have zA:=JV.o.z;clear MU)|(with_reducible refine Zl kA underlying202 ?_)|(with_reducible refine Zs (cells:=(Qf ca cc cp cm)) zA ?_))
   exact Yx90
  | true=>
   cases opn with
   | false=>
    have VC:Hid (X=⟨ca,cc,cp,cm⟩):=by show _=_;rw[HX.o];rfl
    clear HX;go_wp2_with (first|(go_at_call 88;refine CP9.o.mono ?_;rintro e Sm ⟨rfl,MU⟩;have JV:=Zh (HN9.o.below MU);have kA:Sm.heap[w.heap.size]?=some (.cells (Qf ca cc cp cm) 202 (0,0)):=JV.o.st;have zA:=JV.o.z;have CN10:=Zh (CN.o _ JV.o.Zf);clear MU)|(go_at_call 89;refine CN10.o.mono ?_;rintro e EH ⟨rfl,lu⟩;have eJ:=Zh (JV.o.below lu);clear JV kA zA lu;obtain⟨Sm,rfl⟩:∃W:World,W=EH:=⟨_,rfl⟩;have JV:=eJ;clear eJ;have kA:Sm.heap[w.heap.size]?=some (.cells (Qf ca cc cp cm) 202 (0,0)):=JV.o.st;have zA:=JV.o.z)|(with_reducible refine Zl kA underlying202 ?_)|(with_reducible refine Zs (cells:=(Qf ca cc cp cm)) zA ?_))
    exact Yx90
   | true=>
    have VC:Hid (X=⟨ca,ly,cp,cm⟩):=by show _=_;rw[HX.o];rfl
    clear HX;go_upto_region 12 with(first|(go_at_call 88;refine CP9.o.mono ?_;rintro e Sm ⟨rfl,MU⟩;have JV:=Zh (HN9.o.below MU);have kA:Sm.heap[w.heap.size]?=some (.cells (Qf ca cc cp cm) 202 (0,0)):=JV.o.st;have zA:=JV.o.z;have CN10:=Zh (CN.o _ JV.o.Zf);clear MU)|(go_at_call 89;refine CN10.o.mono ?_;rintro e EH ⟨rfl,lu⟩;have eJ:=Zh (JV.o.below lu);clear JV kA zA lu;obtain⟨Sm,rfl⟩:∃W:World,W=EH:=⟨_,rfl⟩;have JV:=eJ;clear eJ;have kA:Sm.heap[w.heap.size]?=some (.cells (Qf ca cc cp cm) 202 (0,0)):=JV.o.st;have zA:=JV.o.z))
    have v0:Sm.cell? ⟨V,0,none⟩=some (.pointer (some ⟨k,0,none⟩)):=Zc (zX.o _ JV.o.Zf) 0 rfl;have b2:Sm.cell? ⟨k,2,none⟩=some (.slice (some ⟨g9,o9,none⟩) L.length c9):=Zc (wU.o _ JV.o.Zf) 2 rfl;have iU:=HLY.o _ JV.o.Zf;have u1:=cell_of JV.o.st 1;have f1:=ZP JV.o.st 1;simp only[XH,SN,Sy,R4]at u1;go_upto_region 13 with fail
    have eJ:Hid (NX w (Sm.setCell ⟨w,1,none⟩ (.int .i64 ly)) (Qa kd p sr q nm a1 n1 c1 a2 n2 c2) ⟨ca,ly,cp,cm⟩):=JV.o.set 1 (.int .i64 ly) ⟨ca,ly,cp,cm⟩ rfl;clear JV kA zA v0 b2 iU u1 f1;generalize Sm.setCell ⟨w,1,none⟩ (.int .i64 ly)=EH at *
    have kA:EH.heap[w.heap.size]?=some (.cells (Qf ca ly cp cm) 202 (0,0)):=eJ.o.st;have zA:=eJ.o.z;go_wp2_with (first|(with_reducible refine Zl kA underlying202 ?_)|(with_reducible refine Zs (cells:=(Qf ca ly cp cm)) zA ?_))
    refine VD (v:= .agg (Qf ca ly cp cm)) ?_ rfl ?_
    ·exact results_cell_row Zr _ _ (w.heap.size+1) 202 (Qf ca ly cp cm) (0,0) _ Zr (setRow_heap _ _ _ _ _ _ zA) underlying202 rfl X_
    exact⟨by rw[VC.o],Z0 eJ.o.Zf (J_ _) _⟩
end
end Go.Proofs.By
namespace Go.Proofs.By
open Go.RowKit Go.Proofs.Heap Go.Proofs
open Go.Proofs.Rm (below_drewN)
theorem uU{w:World}{a:Option Addr}{n c:Nat}{l:List Zx}(h:Row w 59 (.slice a n c) n (l.flatMap Z8)){j:Nat}{z:Zx}(hz:l[j]?=some z):∃g o,a=some ⟨g,o,none⟩ ∧
  w.cell? ⟨g,o+j*4,none⟩=some (.int .i64 z.peer)∧w.cell? ⟨g,o+j*4+1,none⟩=some (.int .i64 z.source)∧w.cell? ⟨g,o+j*4+2,none⟩=some (.int .i64 z.Mr)∧w.cell? ⟨g,o+j*4+3,none⟩=some (.int .i64 z.fin):=by
 have hl:j<l.length:=(List.getElem?_eq_some_iff.1 hz).1;obtain⟨g,o,e,h2⟩:=TI Z8 4 (fun _=>rfl) h Zo;exact⟨g,o,e,h2 j z hz 0 Zo,h2 j z hz 1 Zo,h2 j z hz 2 Zo,h2 j z hz 3 Zo⟩
theorem tO(lv:Value)(LS:List Zx)(x:Zx)(w:World)(h:Row w 59 lv LS.length (LS.flatMap Z8)) :
  Calls prog 142 #[lv,.agg (Z8 x).toArray] w fun e w'=>(∃i:Int,e = .returned (.int .i64 i)∧(0≤i↔x∈LS))∧Below w w w':=by
 obtain⟨va,vc,rfl⟩:=Row.form h
 have yD:LS.length≤maxLen:=by
  obtain⟨a,c,e,h1,h2,_⟩:=h;injection e with _ _ e
  omega
 unfold maxLen at yD;obtain⟨p,s,b,f⟩:=x;have HR:=Zh h;clear h;dsimp only[Z8];have Vk:Hid (Below w w (w.alloc (.cells (Qb p s b f) 59))):=Z' w _;have Tu:Hid ((w.alloc (.cells (Qb p s b f) 59)).heap[w.heap.size]?=some (.cells (Qb p s b f) 59 (0,0))):=Z9 w _;go_enter func142,ntmps142;go_wp2_with fail
 generalize w.alloc (.cells (Qb p s b f) 59)=w0 at *
 go_loopw [8] (fun s8 w'=>∃j:Nat,j≤LS.length∧s8 = .int .i64 (j:Int)∧Below w w w'∧w'.heap[w.heap.size]?=some (.cells (Qb p s b f) 59 (0,0))∧Hid (∀i,i<j→LS[i]?≠some ⟨p,s,b,f⟩)) (fun s8 _=>LS.length-(intOf s8).toNat)
 case atStart=>exact⟨0,Zo,rfl,Vk.o,Tu.o,fun i hi=>by omega⟩
 case round=>
  obtain⟨j,hj,rfl,Xz,hz,II⟩:=hrel;clear Vk Tu;have HB:=Zh Xz;have HZ:=Zh hz;by_cases RN:j<LS.length
  ·have hy:LS[j]?=some LS[j]:=Ve RN;obtain⟨g,o,e,y0,y1,y2,y3⟩:=uU (HR.o.below Xz) hy;cases e;have z0:wr.cell? ⟨w,0,none⟩=some (.int .i64 p):=Zc hz 0 rfl;have z1:wr.cell? ⟨w,1,none⟩=some (.int .i64 s):=Zc hz 1 rfl;have z2:wr.cell? ⟨w,2,none⟩=some (.int .i64 b):=Zc hz 2 rfl;have z3:wr.cell? ⟨w,3,none⟩=some (.int .i64 f):=Zc hz 3 rfl;have Cy:(j:Int)<(LS.length:Int):=P6.2 RN;generalize hq:LS[j]=q at *
   have HY:=Zh hy;clear hy hq Xz hz;obtain⟨p',s',b',f'⟩:=q;dsimp only at y0 y1 y2 y3;by_cases he:(⟨p,s,b,f⟩:Zx)=⟨p',s',b',f'⟩
   ·cases he;go_wp2_with fail
    go_quiet (fail)
    have Yg:=Zh (below_drewN HB.o nq);go_wp2_with fail
    go_ret;exact⟨⟨(j:Int),rfl,⟨fun _=>List.mem_of_getElem? HY.o,fun _=>by omega⟩⟩,Yg.o⟩
   ·have nU:Hid (∀i,i<j+1→LS[i]?≠some ⟨p,s,b,f⟩):=fun i hi hc=>by
     by_cases h:i=j
     ·rw[h,HY.o]at hc;exact he (Option.some.inj hc).symm
     ·exact II.o i Zo hc
    by_cases h1:p=p'
    rotate_left
    ·have f1:(p==p')=false:=by rw[WM];exact h1
     exact fE
    subst h1;by_cases h2:s=s'
    rotate_left
    ·have f1:(s==s')=false:=by rw[WM];exact h2
     exact fE
    subst h2;by_cases h3:b=b'
    rotate_left
    ·have f1:(b==b')=false:=by rw[WM];exact h3
     exact fE
    subst h3;have h4:f≠f':=fun h=>he (by rw[h])
    have f1:(f==f')=false:=by rw[WM];exact h4
    exact fE
  ·have Mi:j=LS.length:=by omega
   have nU:Hid ((⟨p,s,b,f⟩:Zx) ∉ LS):=fun hm=>by
    obtain⟨i,hi,hc⟩:=List.mem_iff_getElem.1 hm;exact II.o i Zo (by rw[Ve hi,hc])
   clear Xz hz;go_wp2_with fail
   go_ret;exact⟨⟨-1,rfl,⟨fun h=>absurd h Zd,fun h=>absurd h nU.o⟩⟩,HB.o⟩
theorem L3(lv:Value)(LS:List Zx)(x:Zx)(w:World)(h:Row w 59 lv LS.length (LS.flatMap Z8)) :
  Calls prog 113 #[lv,.agg (Z8 x).toArray] w fun e w'=>e = .returned (.bool (decide (x∈LS)))∧Below w w w':=by
 have Vk:Hid (Below w w (w.alloc (.cells (Z8 x).toArray 59))):=Z' w _;have CI:=Zh (tO lv LS x _ (Row.below h Vk.o));have HX:Hid (∀i:Int,(0≤i↔x∈LS)→decide (0≤i)=decide (x∈LS)):=fun i hi=>by rw[Bool.eq_iff_iff,Sz,Sz];exact hi
 generalize decide (x∈LS)=X at *
 generalize(x∈LS)=M at *
 clear h;obtain⟨p,s,b,f⟩:=x;dsimp only[Z8]at CI Vk ⊢;go_enter func113,ntmps113;go_wp2_with (go_at_call 142;refine CI.o.mono ?_;rintro e w2 ⟨⟨i,rfl,hi⟩,Zb⟩;have Yg:=Zh (Tr Vk Zb);have HI:=Zh (HX.o i hi);clear hi Zb)
 go_ret;exact⟨by rw[←HI.o];rfl,Yg.o⟩
end Go.Proofs.By
namespace Go.Proofs.Heap
open Go Go.RowKit
section
variable {P:Program}
theorem nA{w:World}(t ty:TypeId)(base:Nat){e:TypeId}{size bytes:Nat}(E:Elem P t e size bytes)(v:Value)(n:Nat)(xs:List Value)(YG:w.ownsRow base e size v n xs)
  (b m c:Nat) (news:List Value) (ZW:Row w e (.slice (some ⟨b,0,none⟩) m c) m news) (hl:news.length=m*size) (h1:∀u∈news,u.oneCell'=true) (hm:0<m)
  (Ur:(n+m)*bytes≤140737488355328) (kZ:n+m≤9223372036854775807) (R7:base≤w.heap.size) :
  ∃v' w',(Builtin.append_ #[t,t] ty #[v,.slice (some ⟨b,0,none⟩) m c]).run P w = .ok v' w'∧w'.ownsRow base e size v' (n+m) (xs++news)∧w.grownBy w' v.ownBlock ∧
   ∀i,v'.ownBlock=some i→v.ownBlock=some i∨i=w.heap.size:=by
 obtain⟨v',w',hr,h2,h3⟩:=sY (P:=P) t ty base E v n xs YG _ m news ZW hl h1 Ur kZ R7;refine⟨v',w',hr,h2,h3,?_⟩;obtain⟨z,UB,iY⟩:=E.info;obtain⟨i,hi,hz,Sc,lF⟩:=info_parts UB;subst Sc;subst lF
 have lQ:∀j u,news[j]?=some u→w.cell? ((⟨b,0,none⟩:Addr).add j)=some u:=by
  obtain⟨ad,cap,hv,_,_,_,hr⟩:=ZW;injection hv with hv _ _
  subst hv;intro j u hu;rcases hr with hr|⟨b',off,c',fr,Sn,hb,hc⟩
  ·subst hr;simp at hu
  ·cases Sn;have hj:j<news.length:=(List.getElem?_eq_some_iff.1 hu).1;have:=hc j hj;have MT:(⟨b,0,none⟩:Addr).add j=⟨b,0+j,none⟩:=by unfold Addr.add;split <;> simp_all
   rw[MT];simp only[World.cell?,hb];simpa[hu]using this
 have hl2:∀k,(Value.slice (some ⟨w,0,none⟩) (n+m) k).ownBlock=some w.heap.size:=fun _=>rfl
 rcases YG.2 with⟨rfl,rfl⟩|⟨g,cap,cur,rfl,hbg,hg,hnc,uz,TN,htake⟩
 ·rw[PW]at Ur;have Mz:=run_append_nil (P:=P) w t ty e i z E.ht hi hz ⟨b,0,none⟩ m c news hl lQ hm Zo Zo;rw[Mz]at hr;injection hr with e1 _
  subst e1;intro k hk;exact WB (Option.some.inj hk).symm
 ·by_cases Xn:n+m≤cap
  ·have hfit:n*i.size+news.length≤cur.size:=by rw[hl,TN,←Nat.add_mul];exact Nat.mul_le_mul_right _ Xn
   have Mz:=run_append_room (P:=P) w t ty e i E.ht hi g n cap cur hg ⟨b,0,none⟩ m c news hl lQ h1 Xn hfit;rw[Mz]at hr;injection hr with e1 _
   subst e1;intro k hk;exact WO hk
  ·have holds:∀j u,xs[j]?=some u→w.cell? ((⟨g,0,none⟩:Addr).add j)=some u:=YG.cells (g:=g) rfl;have Mz:=run_append_grow (P:=P) w t ty e i z E.ht hi hz ⟨g,0,none⟩ n cap xs YG.1 holds ⟨b,0,none⟩ m c news hl lQ Zo Zo (growslice_fits Zo Ur);rw[Mz]at hr;injection hr with e1 _
   subst e1;intro k hk;exact WB (Option.some.inj hk).symm
theorem Xc{ops:Array Oper}{o:Oper}{a:Act}{w:World}{K:Act→World→Prop}{Q:Exit→Act→World→Prop}{E':Prop}(LH:o.guard=none)(s x:Operand)(t:TypeId)
  (ho:o.op = .call {callee:= .builtin .append,args:=#[s,x],argTypes:=#[t,t]})
  (base:Nat) {e:TypeId} {size bytes:Nat} (E:Elem P t e size bytes)
  (v:Value) (n:Nat) (xs:List Value) (hs:a.eval s=v) (YG:w.ownsRow base e size v n xs)
  (b m c:Nat) (news:List Value) (hx:a.eval x = .slice (some ⟨b,0,none⟩) m c) (ZW:Row w e (.slice (some ⟨b,0,none⟩) m c) m news) (hl:news.length=m*size) (h1:∀u∈news,u.oneCell'=true) (hm:0<m)
  (Ur:(n+m)*bytes≤140737488355328) (kZ:n+m≤9223372036854775807) (R7:base≤w.heap.size)
  (h:∀v' w',Hid (w'.ownsRow base e size v' (n+m) (xs++news))→Hid (w.grownBy w' v.ownBlock)→Hid (∀i,v'.ownBlock=some i→v.ownBlock=some i∨i=w.heap.size)→K (a.put o.dst v') w') :
  if Region.wanted o (yielded ops a.tmps)=true then Oper.wp P o a w K Q else E':=by
 have hw:Region.wanted o (yielded ops a.tmps)=true:=by simp[Region.wanted,LH]
 rw[ZU hw];obtain⟨v',w',Be,h2,h3,h4⟩:=nA (P:=P) t o.type base E v n xs YG b m c news ZW hl h1 hm Ur kZ R7;unfold Oper.wp;simp[execOp,ho,resolve,invoke,builtin,hs,hx,Be,Result.andThen];exact h v' w' h2 h3 h4
theorem Ym{ops:Array Oper}{o:Oper}{a:Act}{w:World}{K:Act→World→Prop}{Q:Exit→Act→World→Prop}{E':Prop}(LH:o.guard=none){t e:TypeId}{bytes:Nat}(E:Elem P t e 1 bytes)(x:Operand)(ho:o.op = .buildSlice t 1 #[(0,x)])
  (v:Value) (hx:a.eval x=v) (hv:v.cells=#[v])
  (h:K (a.put o.dst (.slice (some ⟨w,0,none⟩) 1 1)) (w.alloc (.cells #[v] e))):if Region.wanted o (yielded ops a.tmps)=true then Oper.wp P o a w K Q else E':=by
 exact Yx59
end
end Go.Proofs.Heap
