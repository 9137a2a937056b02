import Derived.Test.YtpdjhlcbcomdkaaGreatDoorS10
set_option linter.all false
set_option maxRecDepth 100000
set_option maxHeartbeats 16000000
open Go Go.Q Go.Qr Go.Proofs.Tryz Go.RowKit
namespace Go.Proofs.By
def OQ(v:Value)(k n:Nat)(c:List UInt8)(w:World)(hv:XU w v c)(hn:n≤1000)(hk:k=200∨k=201∨k=203∨k=205∨(k=206∧n=0)) :
  Calls prog 117 (Jb (k:Int) (n:Int) v) w fun e w'=>(∃a,e = .returned a∧SH w' a (Xi k n c))∧Below w w w':=by
 rcases hk with rfl|rfl|rfl|rfl|⟨rfl,h0⟩
 ·exact uR v n c w hv hn
 ·exact uQ v n c w hv hn
 ·exact qA v n c w hv hn
 ·exact yT v n c w hv hn
 ·exact qB v n c w hv hn h0
set_option maxHeartbeats 40000000 in
def Bd(v:Value)(b:List UInt8)(w:World)(hv:XU w v b)(hb:b.length≤512) :
  Calls prog 93 #[v] w fun e w'=>(∃a,e = .returned (.tuple #[a,.int .i64 ((YX b).1.2:Nat),.int .i64 (YX b).2])∧SH w' a (YX b).1.1)∧Below w w w':=by
 have HX:Hid (YX b=Ky b):=yq b;have HV:Hid (∀w',Below w w w'→XU w' v b):=fun w' h=>hv.below h
 have Ur:Hid (∀w2 er,w2.heap[w.heap.size]?=some (.cells X9 173 (0,0))→Below w w w2→YX b=((XJ,0),er)→(∃a,Ending.returned (.tuple (Qs X9 0 er)) = .returned (.tuple #[a,.int .i64 ((YX b).1.2:Nat),.int .i64 (YX b).2])∧SH (w2.setRow w X9) a (YX b).1.1)∧Below w w (w2.setRow w X9)):=fun w2 er h1 h2 h3=>by
  rw[h3];exact⟨⟨_,rfl,MM ((Ct w2).setRow h1 _)⟩,Z0 h2 (Zq _) _⟩
 have H0:Hid (GI w (((w.alloc (.cells X9 173)).alloc (.cells X9 173)).setRow (w.heap.size+1) X9) Yz1):=GI.start w 0
 have hz:((w.alloc (.cells X9 173)).alloc (.cells X9 173)).heap[w.heap.size+1]?=some (.cells X9 173 (0,0)):=by
  exact oH
 obtain⟨va,c,rfl,Rt,tS⟩:∃a c,v = .slice a b.length c∧b.length≤c∧c≤maxLen:=by
  obtain⟨a,c,h1,h2,h3,_⟩:=id hv;exact⟨a,c,h1,h2,h3⟩
 clear hv;generalize YX b=X at *;go_enter func93,ntmps93;go_upto_region 2 with(with_reducible refine Zs hz ?_)
 clear hz;generalize((w.alloc (.cells X9 173)).alloc (.cells X9 173)).setRow (w.heap.size+1) X9=w1 at *;have H1:=H0;clear H0;by_cases h1:b.length<4
 ·have Vc:Hid (X=((XJ,0),2)):=by show _=_;rw[HX.o];unfold Ky;rw[ZU h1]
  have l1:decide ((b.length:Int)<4)=true:=WV Zo;have TS:=H1.o.z;have Uu:=H1.o.Y8;go_wp2_with (first|with_reducible refine Zl Uu underlying173 ?_|with_reducible refine Zs TS ?_)
  refine Vr (v:= .tuple (Qs X9 0 2)) ?_ rfl ?_
  ·exact Yx55
  exact Ur.o _ 2 TS H1.o.Za Vc.o
 have l1:decide ((b.length:Int)<4)=false:=WH Zo;obtain⟨g,off,cap,e1,-,-,hc⟩:=Rk (HV.o w1 H1.o.Za) Zo;cases e1;have d0:=hc 0 Zo;have d1:=hc 1 Zo;have d2:=hc 2 Zo;have d3:=hc 3 Zo;rw[bG]at d0;have i0:(0:Int)<(b.length:Int):=by omega
 have i1:(1:Int)<(b.length:Int):=by omega
 have i2:(2:Int)<(b.length:Int):=by omega
 have i3:(3:Int)<(b.length:Int):=by omega
 have Mb:Hid (X=if at8 b 0/32≠4 then((XJ,0),1)
  else if at8 b 1=200∨at8 b 1=201 then UZ b (at8 b 1) (at8 b 0%32:Nat) 0 15
  else if at8 b 1=203 then UZ b 203 (at8 b 0%32:Nat) 1 15
  else if at8 b 1=205∨at8 b 1=206 then
   (if at8 b 0%32≠1 then((XJ,0),4)
   else if at8 b 1=205 then UZ b 205 ((long b:Int)-2) 1 16 else UZ b 206 ((long b:Int)-2) 0 0)
  else((XJ,0),4)):=by show _=_;rw[HX.o];unfold Ky;rw[Z3 h1]
 have aB:Hid (long b=at8 b 2*256+at8 b 3):=rfl;have r0:=Xd b 0;have r1:=Xd b 1;have r2:=Xd b 2;have r3:=Xd b 3;clear hc HX h1;by_cases h2:at8 b 0/32≠4
 ·have Vc:Hid (X=((XJ,0),1)):=by show _=_;rw[Mb.o,ZU h2]
  have q:(((at8 b 0:Nat):Int)/32 !=4)=true:=by rw[Rs];omega
  have TS:=H1.o.z;have Uu:=H1.o.Y8;go_wp2_with (first|with_reducible refine Zl Uu underlying173 ?_|with_reducible refine Zs TS ?_)
  refine Vr (v:= .tuple (Qs X9 0 1)) ?_ rfl ?_
  ·exact Yx55
  exact Ur.o _ 1 TS H1.o.Za Vc.o
 have q2:(((at8 b 0:Nat):Int)/32 !=4)=false:=by rw[bne_eq_false_iff_eq];omega
 rw[Z3 h2]at Mb;obtain⟨x0,PE⟩:∃x,x=at8 b 0:=⟨_,rfl⟩;obtain⟨x1,Sg⟩:∃x,x=at8 b 1:=⟨_,rfl⟩;obtain⟨x2,Nv⟩:∃x,x=at8 b 2:=⟨_,rfl⟩;obtain⟨x3,SA⟩:∃x,x=at8 b 3:=⟨_,rfl⟩;obtain⟨Lg,hLg⟩:∃x,x=long b:=⟨_,rfl⟩;obtain⟨m,hm⟩:∃m,m=x0%32:=⟨_,rfl⟩;rw[←PE,←Sg,←hLg,←hm]at Mb;rw[←PE]at d0 q2 r0;rw[←Sg]at d1 r1;rw[←Nv]at d2 r2;rw[←SA]at d3 r3;have HL0:Lg=x2*256+x3:=by rw[hLg,Nv,SA];exact aB.o
 have qm:(x0:Int)%32=(m:Int):=by omega
 have qa:IntKind.i64.wrap ((x2:Int)*256)=(x2:Int)*256:=SZ _ Zo;have qb:IntKind.i64.wrap ((x2:Int)*256+(x3:Int))=(Lg:Int):=by rw[SZ _ Zo];omega
 have qs:IntKind.i64.wrap ((Lg:Int)-2)=(Lg:Int)-2:=SZ _ Zo;have q4:IntKind.i64.wrap (4*(Lg:Int))=4*(Lg:Int):=SZ _ Zo;obtain⟨Z,hZ⟩:∃Z:Nat,Z=4+4*Lg:=⟨_,rfl⟩;have q5:IntKind.i64.wrap (4+4*(Lg:Int))=(Z:Int):=by rw[SZ _ Zo];omega
 have hm32:m<32:=by omega
 have hLb:Lg≤70000:=by omega
 have nY:Hid (∀k n l u,UZ b k n l u=if n<l∨u<n∨(Lg:Int)≠V8 k n.toNat then((XJ,0),1)else if b.length<Z then((XJ,0),2)else((Xi k n.toNat ((b.drop 4).take (4*Lg)),Z),0)):=fun k n l u=>by unfold UZ;rw[←hLg,hZ]
 have HZ:=Zh hZ;clear HL0;have hZ4:4≤Z:=by omega
 clear hZ;generalize UZ b=RP at *;have HK:x1=200∨x1=201∨x1=203∨x1=205∨x1=206∨(¬x1=200∧¬x1=201∧¬x1=203∧¬x1=205∧¬x1=206):=by omega
 clear aB PE Sg Nv SA hLg hm h2;go_upto_region 8 with fail
 go_quiet (fail)
 have H1:=Zh (H1.o.below (below_drewN (YE _ _) nq));generalize w1.drewN nq=w2 at *;clear d0 d1 d2 d3;have vG:=Zh (fun(k n:Nat) (hn:n≤100000)=>uX k n w2 hn);rcases HK with Lz|k201|Ha|um|pV|⟨Lz,k201,Ha,um,pV⟩
 ·have M9:Hid (X=RP x1 (m:Int) 0 15):=by show _=_;rw[Mb.o,ZU Zo]
  rw[nY.o,Wi,Lz]at M9;subst Lz;have CW:=Zh (vG.o 200 m Zo);have vV:V8 200 m≤1000:=by unfold V8;simp;omega
  have CW:=CW;generalize V8 200 m=R at *;clear Mb nY vG;have dl:decide ((m:Int)<0)=false:=WH Zo;by_cases rU:15<m
  ·exact Yx99
  have dh:decide (15<(m:Int))=false:=WH Zo;by_cases hw:Lg=R
  rotate_left
  ·exact Yx98
  have gL:Hid (X=if b.length<Z then((XJ,0),2)else((Xi 200 m ((b.drop 4).take (4*Lg)),Z),0)):=by show _=_;rw[M9.o,Z3 Zo]
  subst hw;by_cases T8:b.length<Z
  ·exact Yx3
  have dz:decide ((b.length:Int)<(Z:Int))=false:=WH Zo;have Vc:Hid (X=((Xi 200 m ((b.drop 4).take (4*Lg)),Z),0)):=by show _=_;rw[gL.o,Z3 T8]
  obtain⟨a',Uf,G'⟩:=VZ (P:=prog) Vt (some ⟨g,off,none⟩) b.length c 4 Z hZ4 Zo Rt
  have Hi:Hid (∀w',Below w w w'→XU w' (.slice a' (Z-4) (c-4)) ((b.drop 4).take (4*Lg))):=fun w' h=>by
   exact jA
  have fR:∀w,(Instr.slice 30 (.slice (some ⟨g,off,none⟩) b.length c) (some (.int .i64 4)) (some (.int .i64 (Z:Int))) none).run prog w = .ok (.slice a' (Z-4) (c-4)) w:=Uf;have CI:=Zh (OQ _ 200 m _ w2 (Hi.o w2 H1.o.Za) Zo Zo);generalize Xi 200 m ((b.drop 4).take (4*Lg))=i at *;exact Yx2
 ·have M9:Hid (X=RP x1 (m:Int) 0 15):=by show _=_;rw[Mb.o,ZU Zo]
  rw[nY.o,Wi,k201]at M9;subst k201;have CW:=Zh (vG.o 201 m Zo);have vV:V8 201 m≤1000:=by unfold V8;simp;omega
  have CW:=CW;generalize V8 201 m=R at *;clear Mb nY vG;have dl:decide ((m:Int)<0)=false:=WH Zo;by_cases rU:15<m
  ·exact Yx99
  have dh:decide (15<(m:Int))=false:=WH Zo;by_cases hw:Lg=R
  rotate_left
  ·exact Yx98
  have gL:Hid (X=if b.length<Z then((XJ,0),2)else((Xi 201 m ((b.drop 4).take (4*Lg)),Z),0)):=by show _=_;rw[M9.o,Z3 Zo]
  subst hw;by_cases T8:b.length<Z
  ·exact Yx3
  have dz:decide ((b.length:Int)<(Z:Int))=false:=WH Zo;have Vc:Hid (X=((Xi 201 m ((b.drop 4).take (4*Lg)),Z),0)):=by show _=_;rw[gL.o,Z3 T8]
  obtain⟨a',Uf,G'⟩:=VZ (P:=prog) Vt (some ⟨g,off,none⟩) b.length c 4 Z hZ4 Zo Rt
  have Hi:Hid (∀w',Below w w w'→XU w' (.slice a' (Z-4) (c-4)) ((b.drop 4).take (4*Lg))):=fun w' h=>by
   exact jA
  have fR:∀w,(Instr.slice 30 (.slice (some ⟨g,off,none⟩) b.length c) (some (.int .i64 4)) (some (.int .i64 (Z:Int))) none).run prog w = .ok (.slice a' (Z-4) (c-4)) w:=Uf;have CI:=Zh (OQ _ 201 m _ w2 (Hi.o w2 H1.o.Za) Zo Zo);generalize Xi 201 m ((b.drop 4).take (4*Lg))=i at *;exact Yx2
 ·have M9:Hid (X=RP 203 (m:Int) 1 15):=by show _=_;rw[Mb.o,Z3 Zo,ZU Ha]
  rw[nY.o,Wi]at M9;subst Ha;have CW:=Zh (vG.o 203 m Zo);have vV:V8 203 m≤1000:=by unfold V8;simp;omega
  have CW:=CW;generalize V8 203 m=R at *;clear Mb nY vG;by_cases pF:m<1
  ·have Vc:Hid (X=((XJ,0),1)):=by show _=_;rw[M9.o,ZU Zo]
   have dl:decide ((m:Int)<1)=true:=WV Zo;exact Yx1
  have dl:decide ((m:Int)<1)=false:=WH Zo;by_cases rU:15<m
  ·exact Yx99
  have dh:decide (15<(m:Int))=false:=WH Zo;by_cases hw:Lg=R
  rotate_left
  ·exact Yx98
  have gL:Hid (X=if b.length<Z then((XJ,0),2)else((Xi 203 m ((b.drop 4).take (4*Lg)),Z),0)):=by show _=_;rw[M9.o,Z3 Zo]
  subst hw;by_cases T8:b.length<Z
  ·exact Yx3
  have dz:decide ((b.length:Int)<(Z:Int))=false:=WH Zo;have Vc:Hid (X=((Xi 203 m ((b.drop 4).take (4*Lg)),Z),0)):=by show _=_;rw[gL.o,Z3 T8]
  obtain⟨a',Uf,G'⟩:=VZ (P:=prog) Vt (some ⟨g,off,none⟩) b.length c 4 Z hZ4 Zo Rt
  have Hi:Hid (∀w',Below w w w'→XU w' (.slice a' (Z-4) (c-4)) ((b.drop 4).take (4*Lg))):=fun w' h=>by
   exact jA
  have fR:∀w,(Instr.slice 30 (.slice (some ⟨g,off,none⟩) b.length c) (some (.int .i64 4)) (some (.int .i64 (Z:Int))) none).run prog w = .ok (.slice a' (Z-4) (c-4)) w:=Uf;have CI:=Zh (OQ _ 203 m _ w2 (Hi.o w2 H1.o.Za) Zo Zo);generalize Xi 203 m ((b.drop 4).take (4*Lg))=i at *;exact Yx2
 ·have gK:Hid (X=if m≠1 then((XJ,0),4)else RP 205 ((Lg:Int)-2) 1 16):=by show _=_;rw[Mb.o,Z3 Zo,Z3 Zo,ZU Zo];rw[ZU um]
  subst um;clear Mb;by_cases AW:m=1
  rotate_left
  ·exact Yx23
  have M9:Hid (X=RP 205 ((Lg:Int)-2) 1 16):=by show _=_;rw[gK.o,Z3 Zo]
  rw[nY.o]at M9;subst AW;by_cases pF:(Lg:Int)-2<1
  ·have Vc:Hid (X=((XJ,0),1)):=by show _=_;rw[M9.o,ZU (WQ pF)]
   have dl:decide ((Lg:Int)-2<1)=true:=WV pF;have CW:=Zh (vG.o 0 0 Zo);exact Yx1
  have dl:decide ((Lg:Int)-2<1)=false:=WH pF;by_cases rU:16<(Lg:Int)-2
  ·have Vc:Hid (X=((XJ,0),1)):=by show _=_;rw[M9.o,ZU (WG (WQ rU))]
   have dh:decide (16<(Lg:Int)-2)=true:=WV rU;have CW:=Zh (vG.o 0 0 Zo);exact Yx1
  have dh:decide (16<(Lg:Int)-2)=false:=WH rU;obtain⟨N,hN⟩:∃N:Nat,(Lg:Int)-2=(N:Int):=⟨Lg-2,Zo⟩;rw[hN,Wi]at M9;have CW:=Zh (vG.o 205 N Zo);have vV:(V8 205 N:Int)=(Lg:Int):=by show((2+N:Nat):Int)=_;omega
  rw[vV]at CW M9;rw[hN]at dl dh;replace qs:=qs.trans hN;have HNB:Hid ((N:Int)=(Lg:Int)-2∧¬(16:Int)<(Lg:Int)-2):=⟨hN.symm,rU⟩;have gL:Hid (X=if b.length<Z then((XJ,0),2)else((Xi 205 N ((b.drop 4).take (4*Lg)),Z),0)):=by show _=_;rw[M9.o,Z3 Zo]
  clear M9 gK nY vG vV hN pF rU;by_cases T8:b.length<Z
  ·exact Yx3
  have dz:decide ((b.length:Int)<(Z:Int))=false:=WH Zo;have Vc:Hid (X=((Xi 205 N ((b.drop 4).take (4*Lg)),Z),0)):=by show _=_;rw[gL.o,Z3 T8]
  obtain⟨a',Uf,G'⟩:=VZ (P:=prog) Vt (some ⟨g,off,none⟩) b.length c 4 Z hZ4 Zo Rt
  have Hi:Hid (∀w',Below w w w'→XU w' (.slice a' (Z-4) (c-4)) ((b.drop 4).take (4*Lg))):=fun w' h=>by
   exact jA
  have fR:∀w,(Instr.slice 30 (.slice (some ⟨g,off,none⟩) b.length c) (some (.int .i64 4)) (some (.int .i64 (Z:Int))) none).run prog w = .ok (.slice a' (Z-4) (c-4)) w:=Uf;have CI:=Zh (OQ _ 205 N _ w2 (Hi.o w2 H1.o.Za) (by have:=HNB.o;omega) Zo);generalize Xi 205 N ((b.drop 4).take (4*Lg))=i at *;exact Yx2
 ·have gK:Hid (X=if m≠1 then((XJ,0),4)else RP 206 ((Lg:Int)-2) 0 0):=by show _=_;rw[Mb.o,Z3 Zo,Z3 Zo,ZU Zo];rw[Z3 (show¬x1=205 by omega)]
  subst pV;clear Mb;by_cases AW:m=1
  rotate_left
  ·exact Yx23
  have M9:Hid (X=RP 206 ((Lg:Int)-2) 0 0):=by show _=_;rw[gK.o,Z3 Zo]
  rw[nY.o]at M9;subst AW;by_cases pF:(Lg:Int)-2<0
  ·have Vc:Hid (X=((XJ,0),1)):=by show _=_;rw[M9.o,ZU (WQ pF)]
   have dl:decide ((Lg:Int)-2<0)=true:=WV pF;have CW:=Zh (vG.o 0 0 Zo);exact Yx1
  have dl:decide ((Lg:Int)-2<0)=false:=WH pF;by_cases rU:0<(Lg:Int)-2
  ·have Vc:Hid (X=((XJ,0),1)):=by show _=_;rw[M9.o,ZU (WG (WQ rU))]
   have dh:decide (0<(Lg:Int)-2)=true:=WV rU;have CW:=Zh (vG.o 0 0 Zo);exact Yx1
  have dh:decide (0<(Lg:Int)-2)=false:=WH rU;obtain⟨N,hN⟩:∃N:Nat,(Lg:Int)-2=(N:Int):=⟨Lg-2,Zo⟩;rw[hN,Wi]at M9;have CW:=Zh (vG.o 206 N Zo);have vV:(V8 206 N:Int)=(Lg:Int):=by show((2:Nat):Int)=_;omega
  rw[vV]at CW M9;rw[hN]at dl dh;replace qs:=qs.trans hN;have HNB:Hid ((N:Int)=(Lg:Int)-2∧¬(0:Int)<(Lg:Int)-2):=⟨hN.symm,rU⟩;have gL:Hid (X=if b.length<Z then((XJ,0),2)else((Xi 206 N ((b.drop 4).take (4*Lg)),Z),0)):=by show _=_;rw[M9.o,Z3 Zo]
  clear M9 gK nY vG vV hN pF rU;have dh2:decide (0<N)=false:=WH (by have:=HNB.o;omega);by_cases T8:b.length<Z
  ·exact Yx3
  have dz:decide ((b.length:Int)<(Z:Int))=false:=WH Zo;have Vc:Hid (X=((Xi 206 N ((b.drop 4).take (4*Lg)),Z),0)):=by show _=_;rw[gL.o,Z3 T8]
  obtain⟨a',Uf,G'⟩:=VZ (P:=prog) Vt (some ⟨g,off,none⟩) b.length c 4 Z hZ4 Zo Rt
  have Hi:Hid (∀w',Below w w w'→XU w' (.slice a' (Z-4) (c-4)) ((b.drop 4).take (4*Lg))):=fun w' h=>by
   exact jA
  have fR:∀w,(Instr.slice 30 (.slice (some ⟨g,off,none⟩) b.length c) (some (.int .i64 4)) (some (.int .i64 (Z:Int))) none).run prog w = .ok (.slice a' (Z-4) (c-4)) w:=Uf;have CI:=Zh (OQ _ 206 N _ w2 (Hi.o w2 H1.o.Za) (by have:=HNB.o;omega) (by have:=HNB.o;omega));generalize Xi 206 N ((b.drop 4).take (4*Lg))=i at *;exact Yx2
 ·have Vc:Hid (X=((XJ,0),4)):=by show _=_;rw[Mb.o,Z3 Zo,Z3 Zo,Z3 Zo]
  have e200:((x1:Int)==200)=false:=by rw[Wz];omega
  have e201:((x1:Int)==201)=false:=by rw[Wz];omega
  have e203:((x1:Int)==203)=false:=by rw[Wz];omega
  have e205:((x1:Int)==205)=false:=by rw[Wz];omega
  have e206:((x1:Int)==206)=false:=by rw[Wz];omega
  have CW:=Zh (vG.o 0 0 Zo);have TS:=H1.o.z;have Uu:=H1.o.Y8;go_wp2_with (first|(go_at_call 116;refine CW.o.mono ?_;rintro e w' ⟨rfl,rfl⟩)|with_reducible refine Zl Uu underlying173 ?_|with_reducible refine Zs TS ?_)
  refine Vr (v:= .tuple (Qs X9 0 4)) ?_ rfl ?_
  ·exact Yx55
  exact Ur.o _ 4 TS H1.o.Za Vc.o
def Eh(v:Value)(b:List UInt8)(w:World)(hv:XU w v b) :
  Calls prog 70 #[v] w fun e w'=>(∃a,e = .returned (.tuple #[a,.int .i64 (Yl b).2])∧YB w' a (Yl b).1)∧Below w w w':=by
 have HX:Hid (Yl b=if 512<b.length then([],5)else Yw 8 b):=rfl;have HV:Hid (∀w',Below w w w'→XU w' v b):=fun w' h=>hv.below h
 have hlen:=hv.len;obtain⟨va,c,rfl,Rt,-⟩:=id hv;clear hv Rt;generalize Yl b=X at *;by_cases h1:512<b.length
 ·rw[ZU h1]at HX;clear HV;go_enter func70,ntmps70;go_wp2_with fail
  go_ret2
  exact⟨⟨.slice none 0 0,by rw[HX.o];rfl,by rw[HX.o];exact YB.nil _⟩,YE _ _⟩
 rw[Z3 h1]at HX;have l512:decide (512<(b.length:Int))=false:=WH Zo
 have vJ:Hid (Yw 8 b=comb [] (Yw (8-0) b)):=by
  show _=_;unfold comb;by_cases h:(Yw 8 b).2≠0
  ·rw[ZU h];exact Ie h
  ·rw[Z3 h];have h:(Yw 8 b).2=0:=by omega
   show Yw 8 b=([]++(Yw 8 b).1,0);rw[IC,←h]
 go_enter func70,ntmps70;go_wp2_with fail
 go_loopw [0,4,5] (fun s0 s4 s5 w'=>∃(j:Nat) (r:List UInt8) (ra:Option Addr) (rc:Nat) (L:List Rj),j≤8∧L.length=j∧r.length≤512∧s0 = .slice ra r.length rc∧lN s4=j∧s5 = .bool (decide (j=0))∧Below w w w'∧w'.ownsRow w 173 10 s4 j (L.flatMap YJ)∧(∀x∈L,TW w' x)∧Hid (∀w'',Below w w w''→XU w'' (.slice ra r.length rc) r)∧Hid ((j=0∨0<r.length)→Yw 8 b=comb (L.map (·.i)) (Yw (8-j) r))∧Hid (¬(j=0∨0<r.length)→Yw 8 b=(L.map (·.i),0))) (fun s0 s4 s5 _=>9-lN s4)
 case atStart=>exact⟨0,b,va,c,[],Tv _,rfl,Zo,rfl,rfl,rfl,YE _ _,TH _ _ _ _,fun _ h=>by(exact absurd h Zi),HV.o,fun _=>vJ.o,fun h=>absurd (WQ rfl) h⟩
 case round=>
  clear vJ HV;obtain⟨j,r,ra,rc,L,hj,hLj,hr,rfl,-,rfl,Xp,Yy,Pd,HR,HG,HE⟩:=hrel;obtain⟨oa,oc,rfl,-,-⟩:=Row.Z4 Yy;have R7:=Zh Xp;have Yd:=Zh Yy;have EI:=Zh Pd;have T8:=Xp.size;have HLJ:=Zh hLj;clear Xp Yy Pd hLj;by_cases Ey:j=0∨0<r.length
  rotate_left
  ·have BG:Hid (X=(L.map (·.i),0)):=by show _=_;rw[HX.o,HE.o Ey]
   have hj0:decide (j=0)=false:=WH Zo;have hr0:r.length=0:=by omega
   have hrD:decide (0<(r.length:Int))=false:=WH Zo;rw[hj0];clear HG HE HX Ey;go_wp2_with fail
   go_ret2
   exact⟨⟨_,by rw[BG.o];rfl,by rw[BG.o];exact⟨L,rfl,by rw[HLJ.o];exact Row.Z4 Yd.o,EI.o⟩⟩,R7.o⟩
  have vK:=HG.o Ey;have N7:=Zh vK;clear HG vK HE;by_cases h8:j=8
  ·subst h8;have hrD:decide (0<(r.length:Int))=true:=WV Zo;have hrD2:decide (0<r.length)=true:=WV Zo;have BG:Hid (X=([],3)):=by show _=_;rw[HX.o,N7.o];rfl
   have hj0:decide (8=0)=false:=by decide
   rw[hj0];clear HX N7 Ey;go_wp2_with fail
   go_ret2
   exact⟨⟨.slice none 0 0,by rw[BG.o];rfl,by rw[BG.o];exact YB.nil _⟩,R7.o⟩
  have e8:((j:Int)==8)=false:=by rw[Wz];omega
  obtain⟨q,hq⟩:∃q,8-j=q+1:=⟨7-j,Zo⟩;rw[hq]at N7;have CI:=Zh (Bd _ r wr (HR.o _ R7.o) hr)
  have cA:r.length≤rc:=by
   have h:=HR.o _ R7.o;obtain⟨a1,c1,h1,h2,_⟩:=h;injection h1 with _ _ h1
   omega
  have dg:=Zh (FA (b:=r));have HE:=Zh (xB (L.map (·.i)) q (r:=r));have EJ:=Zh (BR (L.map (·.i)) q (r:=r));have HM:=Zh (BS (L.map (·.i)) q (r:=r));generalize YX r=Y at *;obtain⟨⟨i,n⟩,er⟩:=Y;dsimp only at CI dg HE EJ HM
  have hs5:decide (j=0)=true∨(decide (j=0)=false∧decide (0<(r.length:Int))=true∧decide (0<r.length)=true):=by
   by_cases h:j=0
   ·exact WQ (WV h)
   ·exact WG ⟨WH h,WV Zo,WV Zo⟩
  rcases hs5 with hj0|⟨hj0,hrD,hrD2⟩
  ·exact Yx4
  ·exact Yx4
def VP(w:World)(c d:Array Value)(t s:TypeId):((w.alloc (.cells c t)).alloc (.cells d s)).heap[w.heap.size]?=some (.cells c t (0,0))∧((w.alloc (.cells c t)).alloc (.cells d s)).heap[w.heap.size+1]?=some (.cells d s (0,0))∧((w.alloc (.cells c t)).alloc (.cells d s)).heap.size=w.heap.size+2:=by
 have e1:(w.alloc (.cells c t)).heap.size=w.heap.size+1:=by show(w.heap.push _).size=_;rw[N9]
 refine⟨?_,?_,by show((w.alloc (.cells c t)).heap.push _).size=_;rw[N9,e1]⟩
 ·rw[(Z' (w.alloc (.cells c t)) _).block _ (by rw[e1];omega)];exact Z9 w _
 ·have h:=Z9 (w.alloc (.cells c t)) (.cells d s);rw[e1]at h;exact h
def SQ(k:Int)(p:JR)(d:Eu)(cv ev pv iv:Value):List Value:= .int .i64 k :: (VT p d cv ev pv++[iv])
def wX(w:World)(v:Value):Ev→Prop
 | .none=>v = .agg (SQ 0 WT S_ (.slice none 0 0) (.slice none 0 0) (.slice none 0 0) (.slice none 0 0)).toArray
 | .XS p d=>∃cv ev pv,v = .agg (SQ 1 p d cv ev pv (.slice none 0 0)).toArray∧Vp w p cv ev pv
 | .X4 l=>∃iv,v = .agg (SQ 2 WT S_ (.slice none 0 0) (.slice none 0 0) (.slice none 0 0) iv).toArray∧YB w iv l
def yX{b:List UInt8}(h1:¬512<b.length)(h2:¬b.length<2)(h3:¬(192≤at8 b 1∧at8 b 1≤223)):XX b=if(Th b).2≠0 then(.none,(Th b).2)else(.XS (Th b).1.1 (Th b).1.2,0):=by
 unfold XX Th;rw[Z3 h1,Z3 h2,Z3 h3];by_cases q1:(YH b).2≠0
 ·rw[ZU q1,ZU q1,ZU q1]
 ·rw[Z3 q1,Z3 q1];by_cases q2:(Yu (YH b).1.Zz).2≠0
  ·rw[ZU q2,ZU q2,ZU q2]
  ·rw[Z3 q2,Z3 q2,Z3 (fun h=>h rfl)]
def YB.setRow{w:World}{v:Value}{l:List Rc}(h:YB w v l){g:Nat}{c:Array Value}{f:Nat×Nat}(hg:w.heap[g]?=some (.cells c 84 f))(cs:Array Value):YB (w.setRow g cs) v l:=by
 obtain⟨L,h1,h2,h3⟩:=h;exact⟨L,h1,Row.setRow h2 hg Zd _,fun x hx=>⟨Row.setRow (h3 x hx).b hg Zd _,Row.setRow (h3 x hx).g hg Zd _,Row.setRow (h3 x hx).p hg Zd _⟩⟩
def Dk(v:Value)(b:List UInt8)(w:World)(hv:XU w v b) :
  Calls prog 41 #[v] w fun e w'=>(∃a,e = .returned (.tuple #[a,.int .i64 (XX b).2])∧wX w' a (XX b).1)∧Below w w w':=by
 have HV:Hid (∀w',Below w w w'→XU w' v b):=fun w' h=>hv.below h
 have HB:Hid (Below w w (w.alloc (.cells (Qj 0 false 0 0 0 0 none 0 0 false 0 none 0 0 none 0 0 0 0 false false 0 none 0 0) 84))):=Z' w _;have y0:=Z9 w (.cells (Qj 0 false 0 0 0 0 none 0 0 false 0 none 0 0 none 0 0 0 0 false false 0 none 0 0) 84);have hlen:=hv.len;by_cases h1:512<b.length
 ·have HX:Hid (XX b=(.none,5)):=by show _=_;unfold XX;rw[ZU h1]
  obtain⟨a,c,rfl,-⟩:=id hv;clear hv HV;generalize XX b=X at *;have l1:decide ((512:Int)<(b.length:Int))=true:=WV Zo;go_enter func41,ntmps41;go_wp2_with (first|with_reducible refine Zs y0 ?_)
  refine Vr (v:= .tuple (Qo (Qj 0 false 0 0 0 0 none 0 0 false 0 none 0 0 none 0 0 0 0 false false 0 none 0 0) 5)) ?_ rfl ?_
  ·exact Yt5
  exact⟨⟨_,by rw[HX.o],by rw[HX.o];rfl⟩,Z0 HB.o (Zq _) _⟩
 have l1:decide ((512:Int)<(b.length:Int))=false:=WH Zo;by_cases h2:b.length<2
 ·have HX:Hid (XX b=(.none,2)):=by show _=_;unfold XX;rw[Z3 h1,ZU h2]
  obtain⟨a,c,rfl,-⟩:=id hv;clear hv HV;generalize XX b=X at *;have l2:decide ((b.length:Int)<2)=true:=WV Zo;go_enter func41,ntmps41;go_wp2_with (first|with_reducible refine Zs y0 ?_)
  refine Vr (v:= .tuple (Qo (Qj 0 false 0 0 0 0 none 0 0 false 0 none 0 0 none 0 0 0 0 false false 0 none 0 0) 2)) ?_ rfl ?_
  ·exact Yt5
  exact⟨⟨_,by rw[HX.o],by rw[HX.o];rfl⟩,Z0 HB.o (Zq _) _⟩
 have l2:decide ((b.length:Int)<2)=false:=WH Zo;obtain⟨g,off,c,rfl,Rt,x8,WO⟩:=Rk (HV.o _ HB.o) Zo;have d1:=WO 1 Zo;clear WO hv Rt x8;have hbI:(1:Int)<(b.length:Int):=by omega
 by_cases h3:192≤at8 b 1∧at8 b 1≤223
 ·have HX:Hid (XX b=if(Yl b).2≠0 then(.none,(Yl b).2)else(.X4 (Yl b).1,0)):=by
   show _=_
   conv=>lhs;unfold XX
   rw[Z3 h1,Z3 h2,ZU h3]
  have HC:=Zh (Eh _ b _ (HV.o _ HB.o));clear HV;generalize XX b=X at *;generalize Yl b=Y at *;obtain⟨L,er⟩:=Y;dsimp only at HC HX;obtain⟨pE,AU⟩:=h3;generalize at8 b 1=kd at *;have q1:decide ((192:Int)≤(kd:Int))=true:=WV Zo;have q2:decide ((kd:Int)≤223)=true:=WV Zo;go_enter func41,ntmps41;go_upto_region 7 with(go_at_call 70;refine HC.o.mono ?_;rintro e w2 ⟨⟨iv,rfl,hit⟩,Y7⟩;obtain⟨ia,ic,Ci⟩:=YB.form hit;subst Ci;have GY:=Zh hit;have Yc:=Zh Y7;clear hit Y7)
  clear HC;replace y0:=(Yc.o.block _ (ZY y0)).trans y0;have WB:Hid (Below w w w2):=Tr HB Yc.o;by_cases Rl:er=0
  ·subst Rl;rw[Z3 Zi]at HX;go_wp2_with (first|with_reducible refine Zs y0 ?_)
   refine Vr (v:= .tuple (Qo (Qj 2 false 0 0 0 0 none 0 0 false 0 none 0 0 none 0 0 0 0 false false 0 ia L.length ic) 0)) ?_ rfl ?_
   ·exact Ux (p:=2) (u:=3) Zr _ _ w 84 (Qj 2 false 0 0 0 0 none 0 0 false 0 none 0 0 none 0 0 0 0 false false 0 ia L.length ic) (0,0) _ Zr (setRow_heap _ _ _ _ _ _ y0) underlying84 rfl Zk
   exact⟨⟨_,by rw[HX.o],by rw[HX.o];exact⟨_,rfl,GY.o.setRow y0 _⟩⟩,Z0 WB.o (Zq _) _⟩
  ·have bl:(er !=0)=true:=by rw[Rs];exact Rl
   rw[ZU Rl]at HX;go_wp2_with (first|with_reducible refine Zs y0 ?_)
   refine Vr (v:= .tuple (Qo (Qj 0 false 0 0 0 0 none 0 0 false 0 none 0 0 none 0 0 0 0 false false 0 none 0 0) er)) ?_ rfl ?_
   ·exact Yt5
   exact⟨⟨_,by rw[HX.o],by rw[HX.o];rfl⟩,Z0 WB.o (Zq _) _⟩
 have HX:Hid (XX b=if(Th b).2≠0 then(.none,(Th b).2)else(.XS (Th b).1.1 (Th b).1.2,0)):=yX h1 h2 h3;have HC:=Zh (uI _ b _ (HV.o _ HB.o));clear HV;generalize XX b=X at *;generalize Th b=Y at *;obtain⟨⟨P,d⟩,er⟩:=Y;dsimp only at HC HX;have hk:at8 b 1<192∨223<at8 b 1:=by omega
 clear h3;generalize at8 b 1=kd at *;go_enter func41,ntmps41;rcases hk with hk|hk
 case' inl=>have q1:decide ((192:Int)≤(kd:Int))=false:=WH Zo
 case' inr=>have q1:decide ((192:Int)≤(kd:Int))=true:=WV Zo
 case' inr=>have q2:decide ((kd:Int)≤223)=false:=WH Zo
 all_goals
  go_upto_region 11 with(first|(go_at_call 71;refine HC.o.mono ?_;rintro e w2 ⟨⟨a0,rfl,⟨cv,ev,pv,bR,q1,q2,q3⟩⟩,Y7⟩;obtain⟨ca,cc,G9,-⟩:=id q1;obtain⟨ea,ec,LQ,-⟩:=id q2;obtain⟨pa,pc,Mk,-⟩:=id q3;subst G9;subst LQ;subst Mk;dsimp only[FY]at bR;subst bR;dsimp only[jT];have HR:Hid (Vp w2 P (.slice ca P.Vs.length cc) (.slice ea P.ext.length ec) (.slice pa P.Zz.length pc)):=⟨q1,q2,q3⟩;have Yc:=Zh Y7;clear q1 q2 q3 Y7;obtain⟨n0,n1,n2⟩:=VP w2 (Qc false 0 0 0 0 none 0 0 false 0 none 0 0 none 0 0 0) (Qd 0 false false 0) 79 81)|with_reducible refine Zs n0 ?_|(with_reducible refine Zs ((setRow_other _ _ _ _ Zo).trans n1) ?_))
  clear HC;have pM:w.heap.size<w2.heap.size:=Od (ZY y0) Yc.o.size;have WB:Hid (Below w w w2):=Tr HB Yc.o;have U5:Hid (Below w2 w2 ((((w2.alloc (.cells (Qc false 0 0 0 0 none 0 0 false 0 none 0 0 none 0 0 0) 79)).alloc (.cells (Qd 0 false false 0) 81)).setRow w2 (Jy P ca cc ea ec pa pc)).setRow (w2.heap.size+1) (Ju d))):=Z0 (Z0 (ZA (Z' w2 _) (Zq _) _) (Zq _) _) (JV _) _;replace y0:=(U5.o.block _ pM).trans ((Yc.o.block _ (ZY y0)).trans y0);have PD:Hid (Below w w ((((w2.alloc (.cells (Qc false 0 0 0 0 none 0 0 false 0 none 0 0 none 0 0 0) 79)).alloc (.cells (Qd 0 false false 0) 81)).setRow w2 (Jy P ca cc ea ec pa pc)).setRow (w2.heap.size+1) (Ju d))):=Tr WB U5.o;have y5:((((w2.alloc (.cells (Qc false 0 0 0 0 none 0 0 false 0 none 0 0 none 0 0 0) 79)).alloc (.cells (Qd 0 false false 0) 81)).setRow w2 (Jy P ca cc ea ec pa pc)).setRow (w2.heap.size+1) (Ju d)).heap[w2.heap.size]?=some (.cells (Jy P ca cc ea ec pa pc) 79 (0,0)):=(setRow_other _ _ _ _ Zo).trans (setRow_heap _ _ _ _ _ _ n0)
  have y6:((((w2.alloc (.cells (Qc false 0 0 0 0 none 0 0 false 0 none 0 0 none 0 0 0) 79)).alloc (.cells (Qd 0 false false 0) 81)).setRow w2 (Jy P ca cc ea ec pa pc)).setRow (w2.heap.size+1) (Ju d)).heap[w2.heap.size+1]?=some (.cells (Ju d) 81 (0,0)):=setRow_heap _ _ _ _ _ _ ((setRow_other _ _ _ _ Zo).trans n1);have M8:=Zh (HR.o.below U5.o);by_cases Rl:er=0
  ·subst Rl;rw[Z3 Zi]at HX;have HRZ:=Vp.setRow M8.o y0 Zd Zd (Jx 1 P ca cc ea ec pa pc d none 0 0);go_wp2_with (first|with_reducible refine Zl y5 underlying79 ?_|with_reducible refine Zl y6 underlying81 ?_|with_reducible refine Zs y0 ?_)
   refine Vr (v:= .tuple (Qo (Jx 1 P ca cc ea ec pa pc d none 0 0) 0)) ?_ rfl ?_
   ·exact Ux (p:=2) (u:=3) Zr _ _ w 84 (Jx 1 P ca cc ea ec pa pc d none 0 0) (0,0) _ Zr (setRow_heap _ _ _ _ _ _ y0) underlying84 rfl Zk
   exact⟨⟨_,by rw[HX.o],by rw[HX.o];exact⟨_,_,_,rfl,HRZ⟩⟩,Z0 PD.o (Zq _) _⟩
  ·have bl:(er !=0)=true:=by rw[Rs];exact Rl
   rw[ZU Rl]at HX;go_wp2_with (first|with_reducible refine Zs y0 ?_)
   refine Vr (v:= .tuple (Qo (Qj 0 false 0 0 0 0 none 0 0 false 0 none 0 0 none 0 0 0 0 false false 0 none 0 0) er)) ?_ rfl ?_
   ·exact Ux (p:=2) (u:=3) Zr _ _ w 84 (Qj 0 false 0 0 0 0 none 0 0 false 0 none 0 0 none 0 0 0 0 false false 0 none 0 0) (0,0) _ Zr (setRow_heap _ _ _ _ _ _ y0) underlying84 rfl Zk
   exact⟨⟨_,by rw[HX.o],by rw[HX.o];rfl⟩,Z0 PD.o (Zq _) _⟩
structure zR where
 e:Ev
 cv:Value
 ev:Value
 pv:Value
 iv:Value
def Xb(x:zR):List Value:=SQ x.e.kd x.e.pk x.e.ds x.cv x.ev x.pv x.iv
structure GU(w:World)(x:zR):Prop where
 p:Vp w x.e.pk x.cv x.ev x.pv
 i:YB w x.iv x.e.il
def wX.form{w:World}{v:Value}{e:Ev}(h:wX w v e):∃cv ev pv iv,v = .agg (Xb ⟨e,cv,ev,pv,iv⟩).toArray∧GU w ⟨e,cv,ev,pv,iv⟩:=by
 cases e with
 | none=>exact⟨_,_,_,_,h,Vp.nil w,YB.nil w⟩
 | XS p d=>obtain⟨cv,ev,pv,h1,h2⟩:=h;exact⟨_,_,_,_,h1,h2,YB.nil w⟩
 | X4 l=>obtain⟨iv,h1,h2⟩:=h;exact⟨_,_,_,_,h1,Vp.nil w,h2⟩
def jU:Elem prog 38 84 17 168:=⟨underlying38,⟨.agg (Qj 0 false 0 0 0 0 none 0 0 false 0 none 0 0 none 0 0 0 0 false false 0 none 0 0),by kernel_rfl,rfl⟩,by decide⟩
def Mq:List TypeId:=[44,35,84,59,66,5,173,228,226]
def Off(ts:List TypeId)(w:World)(S:Nat→Prop):Prop:=∀e∈ts,∀j c fr,S j→w.heap[j]?≠some (.cells c e fr)
def QX{ts:List TypeId}{w:World}{B:Nat}{e:TypeId}{s:Nat}{v:Value}{n:Nat}{xs:List Value}(h:w.ownsRow B e s v n xs)(WA:e ∉ ts):Off ts w (fun j=>v.ownBlock=some j):=fun e2 he=>Y0 h (fun h=>WA (h▸he))
def UH{ts:List TypeId}{w:World}{k:Nat}{cs:Array Value}{e:TypeId}{f:Nat×Nat}(h:w.heap[k]?=some (.cells cs e f))(WA:e ∉ ts):Off ts w (· = k):=by
 intro e2 he j c fr hj hc;rw[hj,h]at hc;injection hc with hc
 injection hc with _ hc
 exact WA (hc▸he)
def lV{ts:List TypeId}{w:World}{S T:Nat→Prop}(h1:Off ts w S)(h2:Off ts w T):Off ts w (fun j=>S j∨T j):=fun e he j c fr hj=>hj.elim (fun h=>h1 e he j c fr h) (fun h=>h2 e he j c fr h)
def GU.below{w w':World}{x:zR}(h:GU w x)(hb:Below w w w'):GU w' x:=⟨h.p.below hb,h.i.below hb⟩
def GU.frO{w w':World}{x:zR}{S:Nat→Prop}(h:GU w x)(hf:Fr w S w w')(hS:Off [66,5,173,228,226] w S):GU w' x:=by
 refine⟨h.p.vT hf (hS _ Zi) (hS _ Zi),?_⟩;obtain⟨L,h1,h2,h3⟩:=h.i;exact⟨L,h1,Row.fr h2 hf (Zq _) (hS _ Zi),fun y hy=>(h3 y hy).vT hf (hS _ Zi) (hS _ Zi) (hS _ Zi)⟩
def T9{w w':World}{b:Nat}{T:ZK}{S:Nat→Prop}(h:ZI w b T)(hf:Fr w S w w')(hS:Off [91,103,108,105,66] w S):ZI w' b T:=by
 have hl:=h.lt;obtain⟨pv,sv,uv,hc,ht⟩:=h.Vm;exact⟨pv,sv,uv,by rw[hf.block b hl (fun hs=>hS _ Zi _ _ _ hs hc)];exact hc,ht.fr hf (Zq _) (hS _ Zi) (hS _ Zi) (hS _ Zi) (hS _ Zi)⟩
def Ui{w w':World}{B:Nat}{e:TypeId}{s:Nat}{v:Value}{n:Nat}{xs:List Value}{S:Nat→Prop}{ts:List TypeId}(h:w.ownsRow B e s v n xs)(hf:Fr w S w w')(hS:Off ts w S)(he:e∈ts):w'.ownsRow B e s v n xs:=
 XO h fun j hj=>by
  obtain⟨cur,hc⟩:=V7 h j hj;exact hf.block j (ZY hc) (fun hs=>hS _ he _ _ _ hs hc)
structure Wv(B:Nat)(w:World)(k:Nat)(cs:Array Value)(av:Value)(A:List Et)(ev:Value)(E:List zR)(lv:Value)(LS:List Zt):Prop where
 Y8:w.heap[k]?=some (.cells cs 44 (0,0))
 XR:w.ownsRow B 35 4 av A.length (A.flatMap VF)
 Az:w.ownsRow B 84 17 ev E.length (E.flatMap Xb)
 each:∀x∈E,GU w x
 P6:w.ownsRow B 59 4 lv LS.length (LS.flatMap Z5)
section
variable {B:Nat} {w w':World} {k:Nat} {cs:Array Value} {av:Value} {A:List Et} {ev:Value} {E:List zR} {lv:Value} {LS:List Zt}
def Wv.below(h:Wv B w k cs av A ev E lv LS)(hb:Below w w w'):Wv B w' k cs av A ev E lv LS:=
 ⟨(hb.block _ (ZY h.Y8)).trans h.Y8,Yq h.XR hb,Yq h.Az hb,fun x hx=>(h.each x hx).below hb,Yq h.P6 hb⟩
def Wv.frS(h:Wv B w k cs av A ev E lv LS){S:Nat→Prop}(hf:Fr w S w w')(hS:Off (Mq.drop 1) w S){cs':Array Value}(hk:w'.heap[k]?=some (.cells cs' 44 (0,0))):Wv B w' k cs' av A ev E lv LS:=
 ⟨hk,Ui h.XR hf hS Zd,Ui h.Az hf hS Zd,fun x hx=>(h.each x hx).frO hf (fun e he=>hS e (by revert e;decide)),Ui h.P6 hf hS Zd⟩
def Wv.F_(h:Wv B w k cs av A ev E lv LS)(o:Nat)(u:Value):Wv B (w.setCell ⟨k,o,none⟩ u) k (cs.setIfInBounds o u) av A ev E lv LS:=
 h.frS (S:=(· = k)) ((Fr.refl _ _ _).setAt _ _) (UH h.Y8 Zd) (Vu h.Y8 o u)
def Wv.xO(h:Wv B w k cs av A ev E lv LS)(hg:w.grownBy w' lv.ownBlock){A5:Value}{sW:List Zt}(ho:w'.ownsRow B 59 4 A5 sW.length (sW.flatMap Z5)):Wv B w' k cs av A ev E A5 sW:=by
 have o:=QX (ts:=Mq.erase 59) h.P6 Zd;exact⟨(hg.block _ (ZY h.Y8) (fun e=>o _ Zd _ _ _ e.symm h.Y8)).trans h.Y8,Ui h.XR (XN hg) o Zd,Ui h.Az (XN hg) o Zd,fun x hx=>(h.each x hx).frO (XN hg) (fun e he=>o e (by revert e;decide)),ho⟩
def Wv.B_(h:Wv B w k cs av A ev E lv LS)(hg:w.grownBy w' av.ownBlock){av':Value}{A':List Et}(ho:w'.ownsRow B 35 4 av' A'.length (A'.flatMap VF)):Wv B w' k cs av' A' ev E lv LS:=by
 have o:=QX (ts:=Mq.erase 35) h.XR Zd;exact⟨(hg.block _ (ZY h.Y8) (fun e=>o _ Zd _ _ _ e.symm h.Y8)).trans h.Y8,ho,Ui h.Az (XN hg) o Zd,fun x hx=>(h.each x hx).frO (XN hg) (fun e he=>o e (by revert e;decide)),Ui h.P6 (XN hg) o Zd⟩
def Wv.j0(h:Wv B w k cs av A ev E lv LS)(hg:w.grownBy w' ev.ownBlock){ev':Value}{x:zR}(hx:GU w x)(ho:w'.ownsRow B 84 17 ev' (E++[x]).length ((E++[x]).flatMap Xb)):Wv B w' k cs av A ev' (E++[x]) lv LS:=by
 have o:=QX (ts:=Mq.erase 84) h.Az Zd
 exact⟨(hg.block _ (ZY h.Y8) (fun e=>o _ Zd _ _ _ e.symm h.Y8)).trans h.Y8,Ui h.XR (XN hg) o Zd,ho,fun y hy=>by
  rcases EZ.1 hy with hy|hy
  ·exact(h.each y hy).frO (XN hg) (fun e he=>o e (by revert e;decide))
  ·rw[K4.1 hy];exact hx.frO (XN hg) (fun e he=>o e (by revert e;decide)),Ui h.P6 (XN hg) o Zd⟩
def Wv.newL(h:Wv B w k cs av A ev E lv LS){S:Nat→Prop}(hf:Fr w S w w')(hS:Off (Mq.erase 59) w S){sW:List Zt}(ho:w'.ownsRow B 59 4 lv sW.length (sW.flatMap Z5)):Wv B w' k cs av A ev E lv sW:=
 ⟨(hf.block _ (ZY h.Y8) (fun hs=>hS _ Zd _ _ _ hs h.Y8)).trans h.Y8,Ui h.XR hf hS Zd,Ui h.Az hf hS Zd,fun x hx=>(h.each x hx).frO hf (fun e he=>hS e (by revert e;decide)),ho⟩
end
def Dm{w:World}{b:Nat}{T:ZK}(h:ZI w b T):LH w (· = b):=by
 obtain⟨_,_,_,hc,_⟩:=h.Vm;intro k hk;subst hk;exact⟨_,_,_,hc,by decide,by decide,by decide,by decide,by decide,by decide,by decide⟩
def zC(b:Nat)(T0:ZK)(R0:Room)(peer:Int)(v:Value)(l:List Rc)(w:World)(hR:ZI w b T0)(pM:Wp T0 R0)(hI:Inv R0)(hS:Wc R0)(hv:YB w v l)(V9:∀i∈l,S3 i)(hl:l.length≤8) :
  Calls prog 73 #[.pointer (some ⟨b,0,none⟩),.int .i64 peer,v] w fun e w'=>e = .returned (.int .i64 (Zw peer l R0).2)∧(∃T',ZI w' b T'∧Wp T' (Zw peer l R0).1.2)∧Fr w (· = b) w w':=by
 obtain⟨L,hlL,Pd⟩:=hv;obtain⟨va,vc,rfl⟩:=Row.form Pd.row;have aj:=Zh (Dm hR);have EI:=Zh Pd;have HR0:=Zh hR;have EN:=Zh pM;have Pg:Hid (∀x∈L,S3 x.i):=fun x hx=>V9 _ (by rw[hlL];exact List.mem_map_of_mem hx)
 have hLl:L.length≤8:=by have:=congrArg List.length hlL;rw[Te]at this;omega
 have aA:Hid (∀j,Inv (Zw peer ((L.take j).map (·.i)) R0).1.2∧Wc (Zw peer ((L.take j).map (·.i)) R0).1.2∧0≤(Zw peer ((L.take j).map (·.i)) R0).2∧(Zw peer ((L.take j).map (·.i)) R0).2≤8000):=fun j=>by
  have h:=P4 peer ((L.take j).map (·.i)) R0 hI hS (fun i hi=>by
   obtain⟨x,hx,rfl⟩:=vS.1 hi
   exact Pg.o x (List.mem_of_mem_take hx))
  refine⟨h.1,h.2.1,h.2.2.2.1,Int.le_trans h.2.2.2.2 ?_⟩;have:((L.take j).map (·.i)).length≤8:=by rw[Te,SC];omega
  omega
 have HE:Hid (Zw peer l R0=Zw peer ((L.take L.length).map (·.i)) R0):=by show _=_;rw[nv,←hlL]
 generalize Zw peer l R0=X at *;have HTY:Hid (∀k c fr,k=b→w.heap[k]?≠some (.cells c 66 fr)):=aj.o.ne Zi;clear hR pM hI hS V9 hlL hl Pd;go_enter func73,ntmps73;go_wp2_with fail
 go_loopw [7,22] (fun s7 gy w'=>∃(j:Nat) (T:ZK),j≤L.length∧gy = .int .i64 (j:Int)∧s7 = .int .i64 (Zw peer ((L.take j).map (·.i)) R0).2∧Fr w (· = b) w w'∧ZI w' b T∧Wp T (Zw peer ((L.take j).map (·.i)) R0).1.2) (fun _ gy _=>L.length-(intOf gy).toNat)
 case atStart=>exact⟨0,T0,Zo,rfl,rfl,Fr.refl _ _ _,HR0.o,EN.o⟩
 case round=>
  obtain⟨j,T,hj,rfl,rfl,Wb,UG,D9⟩:=hrel;have TN:=Zh Wb;clear HR0 EN;by_cases RZ:j<L.length
  ·have ZW:=LL.fr EI.o Wb aj.o;obtain⟨g',off',e1,V5⟩:=UI YJ 10 (fun _=>rfl) ZW.row Zo;cases e1;have hx:L[j]?=some L[j]:=U' RZ;have V5:=V5 j _ hx;have LR:=ZW.each L[j] (O6 RZ);have V9:=Pg.o L[j] (O6 RZ)
   have Lc:Hid (Zw peer ((L.take (j+1)).map (·.i)) R0=(((Zw peer ((L.take j).map (·.i)) R0).1.1++(X_ (Zw peer ((L.take j).map (·.i)) R0).1.2 peer L[j].i).1.1,(X_ (Zw peer ((L.take j).map (·.i)) R0).1.2 peer L[j].i).1.2),(Zw peer ((L.take j).map (·.i)) R0).2+(X_ (Zw peer ((L.take j).map (·.i)) R0).1.2 peer L[j].i).2)):=by
    show _=_;rw[QD hx,Ng];exact NI peer L[j].i _ R0
   have Ci:=aA.o j;clear ZW hx;generalize L[j]=x at *;generalize Zw peer ((L.take j).map (·.i)) R0=G at *;obtain⟨⟨G1,R⟩,gu⟩:=G;obtain⟨i,bv,gv,pv⟩:=x;obtain⟨ba,bc,ku⟩:=Row.form LR.b;obtain⟨ga,gc,tX⟩:=Row.form LR.g;obtain⟨pa,pc,Mk⟩:=Row.form LR.p;have gT:=LR.g;clear LR;obtain⟨kd,ss,nt,tm,pk,oc,bs,gn,md,ps⟩:=i;have pG:=V9.m0;have AW:=V9.m1;have zK:=V9.g;clear V9;dsimp only at ku tX Mk gT pG AW zK Lc Ci D9 ⊢;subst ku;subst tX;subst Mk;obtain⟨hri,Uf,hg0,hg8⟩:=Ci;have Nk:wr.rangeAt g' (off'+j*10) (Qe kd ss nt tm pk oc ba bs.length bc ga gn.length gc md pa ps.length pc):=fun m v hm=>(V5 m (by have h:=(List.getElem?_eq_some_iff.1 hm).1;simpa using h)).trans hm
   have Cj:(j:Int)<(L.length:Int):=PM.2 RZ;have hz:=Z9 wr (.cells (Qe 0 0 0 0 0 0 none 0 0 none 0 0 0 none 0 0) 173);have Ia:=setRow_heap _ _ _ (Qe kd ss nt tm pk oc ba bs.length bc ga gn.length gc md pa ps.length pc) _ _ hz;have PD:Hid (Below wr wr ((wr.alloc (.cells (Qe 0 0 0 0 0 0 none 0 0 none 0 0 0 none 0 0) 173)).setRow wr (Qe kd ss nt tm pk oc ba bs.length bc ga gn.length gc md pa ps.length pc))):=Z0 (Z' wr _) (Zq _) _;have HGR:=Zh (Row.below gT PD.o);have Vb:=Zh (UG.below PD.o);have Gv:Hid (Fr w (· = b) w ((wr.alloc (.cells (Qe 0 0 0 0 0 0 none 0 0 none 0 0 0 none 0 0) 173)).setRow wr (Qe kd ss nt tm pk oc ba bs.length bc ga gn.length gc md pa ps.length pc))):=Wb.trans (Fr.Z8 _ (PD.o.mono Wb.size));have L6:=Zh D9;have HRI:=Zh hri;have Hi:=Zh Uf;clear V5 gT UG hri Wb TN PD Uf;go_upto_region 5 with(first|with_reducible refine Zm Nk underlying173 ?_|with_reducible refine Zs hz ?_)
   clear hz Nk;generalize((wr.alloc (.cells (Qe 0 0 0 0 0 0 none 0 0 none 0 0 0 none 0 0) 173)).setRow wr (Qe kd ss nt tm pk oc ba bs.length bc ga gn.length gc md pa ps.length pc))=w5 at *;have y0:w5.cell? ⟨wr,0,none⟩=some (.int .i64 kd):=Zc Ia 0 rfl;have y1:w5.cell? ⟨wr,1,none⟩=some (.int .u32 ss):=Zc Ia 1 rfl;have y7:w5.cell? ⟨wr,7,none⟩=some (.slice ga gn.length gc):=Zc Ia 7 rfl;have y8:w5.cell? ⟨wr,8,none⟩=some (.int .u32 md):=Zc Ia 8 rfl;clear Ia;generalize wr.heap.size=kb at *;have wH:Hid (X_ R peer ⟨kd,ss,nt,tm,pk,oc,bs,gn,md,ps⟩=if kd=200 then(([],R),if owned R peer ss then 0 else 1)else if kd=205∨kd=206 then(([],R),if Ul R peer md then 0 else 1)else if kd=203 then Y6 peer gn R else(([],R),0)):=rfl;generalize X_ R peer ⟨kd,ss,nt,tm,pk,oc,bs,gn,md,ps⟩=Y at *;generalize ps.length=pl at *;generalize bs.length=bl at *;by_cases Lz:kd=200
   ·subst Lz;have dI:Hid (Y=(([],R),if owned R peer ss then 0 else 1)):=by show _=_;rw[wH.o];simp
    have LJ:=Zh (Dn D9 HRI.o peer ss);have CO:=Zh (Kw b T ss w5 Vb.o);clear wH D9;generalize owned R peer ss=ow at *;generalize T.of ss=O at *;obtain⟨O1,O2,O3⟩:=O;dsimp only at CO LJ;have CW:=Zh (fun(w':World) (h:Below w5 w5 w')=>Oa b T O1 w' (Vb.o.below h));generalize T.owner O1=q at *;have Tx:(O3=false∨O3=true∧q≠peer)∨(O3=true∧peer=q):=by cases O3 <;> by_cases hq:q=peer <;> simp[hq,eq_comm]
    rcases Tx with Tx|⟨rfl,rfl⟩
    ·have Cn:ow=false:=by
      cases ow with
      | false=>rfl
      | true=>have:=LJ.o.2 rfl;rcases Tx with h|⟨_,h⟩;(rw[h]at this;cases this.1);exact absurd this.2 h
     subst Cn;have KZ:Hid (Y=(([],R),1)):=dI.o;have HZ:Hid (Zw peer ((L.take (j+1)).map (·.i)) R0=((G1,R),gu+1)):=by show _=_;rw[Lc.o,KZ.o];simp
     clear dI LJ Lc KZ;rcases Tx with rfl|⟨rfl,hq⟩
     case' inr=>have YV:(q !=peer)=true:=by rw[Rs];exact hq
     all_goals
      go_wp2_with (first|(go_at_call 74;refine CO.o.mono ?_;rintro e w6 ⟨rfl,Cg⟩;have Ri:=Zh Cg;clear Cg)|(go_at_call 75;refine(CW.o _ Ri.o).mono ?_;rintro e w7 ⟨rfl,LP⟩;replace Ri:=Zh (Tr Ri LP);clear LP))
      go_roundw
      case rel=>exact⟨j+1,T,Zo,Zn,by rw[HZ.o],Gv.o.trans (Fr.Z8 _ (Ri.o.mono Gv.o.size)),Vb.o.below Ri.o,by rw[HZ.o];exact L6.o⟩
      case measure=>simp[intOf];omega
    ·have Cn:ow=true:=LJ.o.1 ⟨rfl,rfl⟩;subst Cn;have KZ:Hid (Y=(([],R),0)):=dI.o;have HZ:Hid (Zw peer ((L.take (j+1)).map (·.i)) R0=((G1,R),gu)):=by show _=_;rw[Lc.o,KZ.o];simp
     have YV:(peer !=peer)=false:=by rw[bne_self_eq_false]
     clear dI LJ Lc KZ;go_wp2_with (first|(go_at_call 74;refine CO.o.mono ?_;rintro e w6 ⟨rfl,Cg⟩;have Ri:=Zh Cg;clear Cg)|(go_at_call 75;refine(CW.o _ Ri.o).mono ?_;rintro e w7 ⟨rfl,LP⟩;replace Ri:=Zh (Tr Ri LP);clear LP))
     exact Yt14
   by_cases k56:kd=205∨kd=206
   ·have dI:Hid (Y=(([],R),if Ul R peer md then 0 else 1)):=by show _=_;rw[wH.o,Z3 Lz,ZU k56]
    have LJ:=Zh (qy D9 peer md);have CH:=Zh (uK md w5 pG AW);clear wH D9;generalize Ul R peer md=ow at *;generalize UY md=O at *;obtain⟨O1,O2,O3⟩:=O;dsimp only at CH LJ;have CB:=Zh (Wd b T O1 O2 w5 Vb.o);generalize T.YZ O1 O2=q at *;have Ri:=Zh (YE w5 w5)
    have Tx:(O3=false∨O3=true∧O1≠peer∨O3=true∧peer=O1∧q<0)∨(O3=true∧peer=O1∧0≤q):=by
     have:=Int.lt_or_le q 0;cases O3 <;> by_cases hq:O1=peer
     ·simp
     ·simp
     ·subst hq;simpa using this
     ·simp[hq]
    rcases Tx with Tx|⟨rfl,rfl,hq⟩
    ·have Cn:ow=false:=by
      cases ow with
      | false=>rfl
      | true=>have:=LJ.o.2 rfl;rcases Tx with h|⟨_,h⟩|⟨_,_,h⟩;(rw[h]at this;cases this.1);exact absurd this.2.1 h;exact absurd this.2.2 Zo
     subst Cn;have KZ:Hid (Y=(([],R),1)):=dI.o;have HZ:Hid (Zw peer ((L.take (j+1)).map (·.i)) R0=((G1,R),gu+1)):=by show _=_;rw[Lc.o,KZ.o];simp
     clear dI LJ Lc KZ;rcases Tx with rfl|⟨rfl,hq⟩|⟨rfl,rfl,hq⟩
     case' inr.inl=>have YV:(O1 !=peer)=true:=by rw[Rs];exact hq
     case' inr.inr=>have YV:(peer !=peer)=false:=by rw[bne_self_eq_false]
     case' inr.inr=>have Y7:decide (q<0)=true:=WV hq
     all_goals
      rcases k56 with rfl|rfl
      all_goals
       go_wp2_with (first|(go_at_call 103;refine CH.o.mono ?_;rintro e w6 ⟨rfl,rfl⟩)|(go_at_call 51;refine CB.o.mono ?_;rintro e w7 ⟨rfl,LP⟩;have Ri:=Zh LP;clear LP))
       go_roundw
       case rel=>exact⟨j+1,T,Zo,Zn,by rw[HZ.o],Gv.o.trans (Fr.Z8 _ (Ri.o.mono Gv.o.size)),Vb.o.below Ri.o,by rw[HZ.o];exact L6.o⟩
       case measure=>simp[intOf];omega
    ·have Cn:ow=true:=LJ.o.1 ⟨rfl,rfl,hq⟩;subst Cn;have KZ:Hid (Y=(([],R),0)):=dI.o;have HZ:Hid (Zw peer ((L.take (j+1)).map (·.i)) R0=((G1,R),gu)):=by show _=_;rw[Lc.o,KZ.o];simp
     have YV:(peer !=peer)=false:=by rw[bne_self_eq_false]
     have Y7:decide (q<0)=false:=WH Zo;clear dI LJ Lc KZ;rcases k56 with rfl|rfl
     all_goals
      go_wp2_with (first|(go_at_call 103;refine CH.o.mono ?_;rintro e w6 ⟨rfl,rfl⟩)|(go_at_call 51;refine CB.o.mono ?_;rintro e w7 ⟨rfl,LP⟩;have Ri:=Zh LP;clear LP))
      go_roundw
      case rel=>exact⟨j+1,T,Zo,Zn,by rw[HZ.o],Gv.o.trans (Fr.Z8 _ (Ri.o.mono Gv.o.size)),Vb.o.below Ri.o,by rw[HZ.o];exact L6.o⟩
      case measure=>simp[intOf];omega
   have e1:(kd==200)=false:=by rw[Wz];exact Lz
   have e2:(kd==205)=false:=by rw[Wz];omega
   have e3:(kd==206)=false:=by rw[Wz];omega
   by_cases Ha:kd=203
   rotate_left
   ·have KZ:Hid (Y=(([],R),0)):=by show _=_;rw[wH.o,Z3 Lz,Z3 k56,Z3 Ha]
    have e4:(kd==203)=false:=by rw[Wz];exact Ha
    have Ri:=Zh (YE w5 w5);have HZ:Hid (Zw peer ((L.take (j+1)).map (·.i)) R0=((G1,R),gu)):=by show _=_;rw[Lc.o,KZ.o];simp
    clear wH Lc KZ;go_wp2_with fail
    exact Yt14
   subst Ha;have KZ:Hid (Y=Y6 peer gn R):=by show _=_;rw[wH.o,Z3 Lz,Z3 k56,ZU rfl]
   have HTY5:Hid (∀k c fr,k=b→w5.heap[k]?≠some (.cells c 66 fr)):=(Dm Vb.o).ne Zi
   have HGV:Hid (∀m,Inv (Y6 peer (gn.take m) R).1.2∧0≤(Y6 peer (gn.take m) R).2∧(Y6 peer (gn.take m) R).2≤128):=fun m=>by
    have h:=PT peer (gn.take m) R HRI.o Hi.o;rw[SC]at h;exact⟨h.1,h.2.2.2.1,by have:=h.2.2.2.2;omega⟩
   clear wH e1 e2 e3 Lz k56 D9 HRI Hi y1 y8;go_wp2_with fail
   go_loopw [7,80] (fun s7 s80 w'=>∃(m:Nat) (T2:ZK),m≤gn.length∧s80 = .int .i64 (m:Int)∧s7 = .int .i64 (gu+(Y6 peer (gn.take m) R).2)∧Fr w5 (· = b) w5 w'∧ZI w' b T2∧Wp T2 (Y6 peer (gn.take m) R).1.2) (fun _ s80 _=>gn.length-(intOf s80).toNat)
   case atStart=>exact⟨0,T,Zo,rfl,by show _=Value.int .i64 (gu+0);rw[Int.add_zero],Fr.refl _ _ _,Vb.o,L6.o⟩
   case round=>
    obtain⟨m,T2,hm,rfl,rfl,tT,OB,x_⟩:=hrel;have wE:=Zh tT;have tX:=HGV.o m;by_cases MG:m<gn.length
    ·obtain⟨g2,yD,cap2,e2,-,-,-,zJ⟩:=M0 (Row.fr HGR.o tT (Zq _) HTY5.o) Zo;cases e2;have hc:=zJ m MG;have HT:=Zh (Gh MG);have nD:(m:Int)<(gn.length:Int):=PM.2 MG;have fB:=tJ;clear zJ;generalize gn.getD m 0=p at *;have HS:=Zh (NF peer p (gn.take m) R);have CG:=Zh (Dj b T2 (Y6 peer (gn.take m) R).1.2 peer p wr OB x_ tX.1);obtain⟨-,hv1,hv2⟩:=tX;clear tT OB x_;generalize Y6 peer (gn.take m) R=Gm at *;generalize YM Gm.1.2 peer p=Z at *;obtain⟨⟨Z1,Z2⟩,ze⟩:=Z;obtain⟨⟨Gm1,Gm2⟩,gmu⟩:=Gm;dsimp only at CG HS hv1 hv2;by_cases hze:ze=0
     case' pos=>have H8:(ze !=0)=false:=by rw[hze];rfl
     case' neg=>have H8:(ze !=0)=true:=by rw[Rs];exact hze
     case' pos=>have Pz:Hid (Y6 peer (gn.take m++[p]) R=((Gm1++Z1,Z2),gmu)):=by show _=_;rw[HS.o];simp[xA,hze]
     case' neg=>have Pz:Hid (Y6 peer (gn.take m++[p]) R=((Gm1++Z1,Z2),gmu+1)):=by show _=_;rw[HS.o];simp[xA,hze]
     all_goals
      clear HS fB hze;go_wp2_with (go_at_call 104;refine CG.o.mono ?_;rintro e w8 ⟨⟨tv,rfl,Sz⟩,⟨T3,D7,vW⟩,bZ⟩;obtain⟨ta,tc,lh,-⟩:=id Sz;subst lh;have wM:=Zh D7;have JN:=Zh vW;have HF3:=Zh (wE.o.trans (bZ.mono wE.o.size (fun _ _ h=>h)));clear Sz D7 vW bZ)
      go_roundw
      case rel=>exact⟨m+1,T3,Zo,Zn,by rw[HT.o,Pz.o] <;> first|rfl|rw[Int.add_assoc],HF3.o,wM.o,by rw[HT.o,Pz.o];exact JN.o⟩
      case measure=>simp[intOf];omega
    ·have hT:gn.take m=gn:=Ex Zo;rw[hT]at x_ ⊢;have JN:=Zh x_;have wM:=Zh OB;have HZ:Hid (Zw peer ((L.take (j+1)).map (·.i)) R0=((G1++(Y6 peer gn R).1.1,(Y6 peer gn R).1.2),gu+(Y6 peer gn R).2)):=by show _=_;rw[Lc.o,KZ.o]
     clear tX HGV tT OB x_ Lc KZ;generalize Y6 peer gn R=Gm at *;go_wp2_with fail
     go_roundw
     case rel=>exact⟨j+1,T2,Zo,Zn,by rw[HZ.o],Gv.o.trans (wE.o.mono Gv.o.size (fun _ _ h=>h)),wM.o,by rw[HZ.o];exact JN.o⟩
     case measure=>simp[intOf];omega
  ·have K6:j=L.length:=by omega
   subst K6;rw[←HE.o]at D9 ⊢;have L6:=Zh D9;have Vb:=Zh UG;clear Wb UG D9 aA HE Pg EI;go_wp2_with fail
   go_ret;exact⟨rfl,⟨T,Vb.o,L6.o⟩,TN.o⟩
def VH{P:Program}{fn:Func}{p:Tmp}{ty:TypeId}(h:fn.results=#[.cell p ty])(tmps:Array Value)(w:World)(g:Nat)(t:TypeId)(cs:Array Value)(fr:Nat×Nat)(d:TypeDesc)
  (hp:tmps.getD p undef = .pointer (some ⟨g,0,none⟩)) (hg:w.heap[g]?=some (.cells cs t fr))
  (hu:P.underlying ty=some d) (hd:(match d with | .struct _ | .array _ _=>true|_=>false)=true) (hi:(P.info? ty).map (·.size)=some cs.size) :
  (results fn tmps).run P w = .ok (.agg cs) w:=by
 exact Yt4
def gz{b:List UInt8}(h:(XX b).2=0):(XX b).1 ≠ .none:=by
 unfold XX at h ⊢;split
 ·rename_i hx;rw[ZU hx]at h;cases h
 rename_i h1
 rw[Z3 h1]at h;split
 ·rename_i hx;rw[ZU hx]at h;cases h
 rename_i h2
 rw[Z3 h2]at h;split
 ·rename_i h3
  rw[ZU h3]at h;split
  ·rename_i hx;rw[ZU hx]at h;exact absurd h hx
  ·exact fun h=>by cases h
 ·rename_i h3
  rw[Z3 h3]at h;split
  ·rename_i hx;rw[ZU hx]at h;exact absurd h hx
  ·rename_i hx
   rw[Z3 hx]at h;split
   ·rename_i hy;rw[ZU hy]at h;exact absurd h hy
   ·exact fun h=>by cases h
def TV(k b:Nat)(oa:Option Addr)(n oc:Nat)(av ev lv:Value)(c:QN)(X:(Taken×Room)×Int)(w:World)(e:Ending)(w':World):Prop:=
 e = .returned (.agg (Jv X.1.1.XR))∧w'.heap[k]?=some (.cells (Qx oa n oc av ev lv (c.add X.1.1.XR.kind X.1.1.unknown).bad (c.add X.1.1.XR.kind X.1.1.unknown).XE (c.add X.1.1.XR.kind X.1.1.unknown).unknown (c.add X.1.1.XR.kind X.1.1.unknown).refused 0 0 0 0 (some ⟨b,0,none⟩)) 44 (0,0))∧(∃T',ZI w' b T'∧Wp T' X.1.2)∧Fr w (fun j=>j=k∨j=b) w w'
section
variable {k b:Nat} {oa:Option Addr} {n oc:Nat} {av ev lv:Value} {c:QN} {X:(Taken×Room)×Int} {w:World}
def TV.fin{w8:World}{T':ZK}{t:Taken}{R':Room}{ep' n0 n1 n2 n3:Int}(hX:X=((t,R'),ep'))(hc:c.add t.XR.kind t.unknown=⟨n0,n1,n2,n3⟩)(hk:w8.heap[k]?=some (.cells (Qx oa n oc av ev lv n0 n1 n2 n3 0 0 0 0 (some ⟨b,0,none⟩)) 44 (0,0)))(hr:ZI w8 b T')(hs:Wp T' R')(hf:Fr w (fun j=>j=k∨j=b) w w8)(Vz:k<w.heap.size)
  {cs:Array Value} {f:Nat×Nat} (hy:w8.heap[w.heap.size+1]?=some (.cells cs 35 f)):TV k b oa n oc av ev lv c X w (.returned (.agg (Jv t.XR))) (w8.setRow (w.heap.size+1) (Jv t.XR)):=by
 subst hX;unfold TV;dsimp only;rw[hc];have hf1:Fr w8 (· = w.heap.size+1) w8 (w8.setRow (w.heap.size+1) (Jv t.XR)):=S6 _ _ _;exact⟨rfl,(setRow_other _ _ _ _ Zo).trans hk,⟨T',T9 hr hf1 (UH hy Zd),hs⟩,hf.trans ⟨hf1.os,hf1.tape,hf1.output,hf1.size,fun j hj hn=>setRow_other _ _ _ _ Zo⟩⟩
end
def oO(k b:Nat)(oa:Option Addr)(n oc:Nat)(av ev lv:Value)(c:QN)(T:ZK)(R:Room)(ep:Int)(o:Op)(sa ba:Option Addr)(sc bl bc:Nat)(bs:List UInt8)(sv:Value)(w:World)
  (Ov:w.heap[k]?=some (.cells (Qx oa n oc av ev lv c.bad c.XE c.unknown c.refused 0 0 0 0 (some ⟨b,0,none⟩)) 44 (0,0))) (hR:ZI w b T) (hs:Wp T R) (hI:Inv R) (hT:Xn w) (UD:o.name.length<9223372036854775807) (LW:XG w (.slice sa o.ZG.length sc) o.ZG.length (YF o.ZG)) (h0:0≤ep) (h9:ep<1000000000) (hc:c.Below 1000000000) (pE:o.kind≠1) :
  Calls prog 42 (Qu (some ⟨k,0,none⟩) (Jr o sa o.ZG.length sc ba bl bc) ep) w (TV k b oa n oc av ev lv c (take R ep o bs sv) w):=by
 have hX:take R ep o bs sv=if(Wq R o sv).2≠0 then((Ya 6 (Wq R o sv).2,R),ep)else((Uc (ep+1) [] (Wq R o sv).1.1 0,(Wq R o sv).1.2),ep+1):=by unfold take;rw[Z3 pE]
 have HX:=Zh hX;have HDE:=Zh (fun(h:(Wq R o sv).2≠0)=>rG h);have Vz:=ZY Ov;have WO:=hR.lt
 have gU:k≠b:=fun e=>by
  obtain⟨_,_,_,h,_⟩:=hR.Vm;rw[←e,Ov]at h;injection h with h
  injection h with _ h
  exact absurd h Zd
 obtain⟨⟨-,hc0⟩,⟨-,fA⟩,⟨-,zJ⟩,⟨hr0,pA⟩⟩:=hc;obtain⟨kd,p,s,q,nm,ss⟩:=o;dsimp only at UD LW pE ⊢;have e1:(kd !=1)=true:=by rw[Rs];exact pE
 obtain⟨y0,y1,T8⟩:=VP w (Qa kd p s q (str nm) sa ss.length sc ba bl bc) (Qb 0 0 0 0) 32 35;have U_:Hid (Below w w ((w.alloc (.cells (Qa kd p s q (str nm) sa ss.length sc ba bl bc) 32)).alloc (.cells (Qb 0 0 0 0) 35))):=ZA (Z' w _) (Zq _) _;have CD:=Zh (sk b T R ⟨kd,p,s,q,nm,ss⟩ sv sa ba sc bl bc ((w.alloc (.cells (Qa kd p s q (str nm) sa ss.length sc ba bl bc) 32)).alloc (.cells (Qb 0 0 0 0) 35)).drew (hR.below U_.o.drew) hs hI (Utf8Tabs_below hT U_.o.drew) UD (LW.below U_.o.drew));generalize take R ep ⟨kd,p,s,q,nm,ss⟩ bs sv=X at *;generalize Wq R ⟨kd,p,s,q,nm,ss⟩ sv=D at *;obtain⟨⟨D1,D2⟩,er⟩:=D;dsimp only at CD HX HDE;clear hX LW hT hR hI;go_enter func42,ntmps42;go_upto_region 2 with fail
 have D_:=Zh y1;have cg:=(U_.o.block _ Vz).trans Ov;have HK:=Zh cg;have HY:=Zh y0;have KZ:=Zh y1;have Gs:=U_;have hszX:=T8;clear y0 y1 cg;generalize((w.alloc (.cells (Qa kd p s q (str nm) sa ss.length sc ba bl bc) 32)).alloc (.cells (Qb 0 0 0 0) 35))=w1 at *
 have Zv:Hid (∀w',Below w1 w1 w'→w'.cell? ⟨k,12,none⟩=some (.pointer (some ⟨b,0,none⟩))∧w'.heap[w.heap.size]?=some (.cells (Qa kd p s q (str nm) sa ss.length sc ba bl bc) 32 (0,0))):=fun w' h=>
  ⟨by rw[cell_of ((h.block _ (ZY HK.o)).trans HK.o) 12];rfl,(h.block _ (ZY HY.o)).trans HY.o⟩
 clear D_;refine RX ?_;refine Zj (d:=5) (S:=(fun w'=>w'.cell? ⟨k,12,none⟩=some (.pointer (some ⟨b,0,none⟩))∧w'.heap[w.heap.size]?=some (.cells (Qa kd p s q (str nm) sa ss.length sc ba bl bc) 32 (0,0)))) Zk ?_ (fun XY=>?_)
 ·exact Zv.o _ (YE _ _).drew
 refine YP 0 (h:=YP 1 (h:=YP 2 (h:=YK 3 (h:=?_))));refine tk 4 ?_ rfl ?_ <| ?_
 rotate_left
 ·intro wS Ud;(try dsimp only at Ud)
  refine VG 32 (.tmp 4) ?_ w ?_ 32 (Qa kd p s q (str nm) sa ss.length sc ba bl bc) (0,0) _ Ud.2 underlying32 rfl Zk;all_goals rfl
 try simp only[pt]
 refine YR 5 (h:=fun K hK=>?_);go_simp;refine CD.o.mono ?_;rintro e w2 ⟨⟨tv,rfl,Sz⟩,⟨T2,OA,GG⟩,tT⟩;obtain⟨ta,tc,lh,-⟩:=id Sz;subst lh;have rh:=Zh OA;have Pz:=Zh GG;have wE:=Zh tT;clear Sz OA GG tT;go_wp2_with fail
 refine Ye hK _ _ Zk ?_;clear hK K;try simp only[pt]
 refine YP 6 (h:=YP 7 (h:=YP 8 (h:=YP 9 (h:=YP 10 (h:=?_)))));refine Yt Zk ?_ _;refine QP ?_;clear Zv CD;have hsw:w1.heap.size≤w2.heap.size:=PJ (YE w1 w1).drew.size wE.o.size;have HF3:Hid (Fr w1 (· = b) w1 w2):=(Fr.Z8 _ (YE w1 w1).drew).trans (wE.o.mono (YE w1 w1).drew.size (fun _ _ h=>h));have mW:Hid (Fr w (fun j=>j=k∨j=b) w w2):=(Fr.Z8 _ U_.o).trans (HF3.o.mono U_.o.size (fun _ _ h=>WG h));have k2:=(HF3.o.block k (ZY HK.o) gU).trans HK.o;have y2:=(HF3.o.block (w.heap.size+1) (ZY KZ.o) Zo).trans KZ.o;clear wE HF3 HK HY KZ;by_cases Rl:er=0
 rotate_left
 ·have bl:(er !=0)=true:=by rw[Rs];exact Rl
  have hX:X=((Ya 6 er,R),ep):=by rw[HX.o];exact ZU Rl
  have hD2:D2=R:=HDE.o Rl;subst hD2;have q7:w2.cell? ⟨k,7,none⟩=some (.int .i64 c.refused):=Zc k2 7 rfl;have f7:w2.frozen? ⟨k,7,none⟩=false:=ZP k2 7;have pj:=Zh hX;have fq:=Zh (T9 rh.o (Fr.setAt (Fr.refl w2 (· = k) w2) 7 (.int .i64 (c.refused+1))) (UH k2 Zd));have j_:=Zh (Vu k2 7 (.int .i64 (c.refused+1)));have eW:=Zh (mW.o.setCell (p:=⟨k,7,none⟩) (WG (WQ rfl)) (.int .i64 (c.refused+1)));have kj:=Zh ((L8 w2 ⟨k,7,none⟩ (.int .i64 (c.refused+1)) (w.heap.size+1) (by show _≠k;omega)).trans y2);clear HX HDE hX k2 y2 mW rh;go_upto_region 5 with fail
  generalize w2.setCell ⟨k,7,none⟩ (.int .i64 (c.refused+1))=w8 at *;have y1:=kj.o;have kb:=j_.o;clear q7 f7;go_wp2_with (first|with_reducible refine Zs y1 ?_)
  refine Vr (v:= .agg (Qb 6 0 0 er)) ?_ rfl ?_
  ·exact VH (p:=6) Zr _ _ (w.heap.size+1) 35 (Qb 6 0 0 er) (0,0) _ Zr (setRow_heap _ _ _ _ _ _ y1) underlying35 rfl Zk
  exact TV.fin (T':=_) pj.o (by simp[QN.add,Ya,Uo]) kb fq.o Pz.o eW.o Vz y1
 subst Rl;have hX:X=((Uc (ep+1) [] D1 0,D2),ep+1):=by rw[HX.o];exact Z3 (fun h=>h rfl)
 have pj:=Zh hX;have y1:=y2;have kb:=k2;clear HX HDE hX y2 k2;go_wp2_with (first|with_reducible refine Zs y1 ?_)
 refine Vr (v:= .agg (Qb 2 0 (ep+1) 0)) ?_ rfl ?_
 ·exact VH (p:=6) Zr _ _ (w.heap.size+1) 35 (Qb 2 0 (ep+1) 0) (0,0) _ Zr (setRow_heap _ _ _ _ _ _ y1) underlying35 rfl Zk
 exact TV.fin (T':=_) pj.o (by simp[QN.add,Uc,Uo]) kb rh.o Pz.o mW.o Vz y1
def zq{b:List UInt8}{l:List Rc}(h:(XX b).1 = .X4 l):(∀i∈l,S3 i)∧l.length≤8:=by
 have key:l=(Yl b).1:=by
  unfold XX at h;split at h
  ·cases h
  split at h
  ·cases h
  split at h
  ·split at h
   ·cases h
   ·injection h with h;exact h.symm
  ·split at h
   ·cases h
   ·split at h <;> cases h
 rw[key];exact S9 b
def jW{E:Ev}(h:E ≠ .none):(E.kd=1∧E = .XS E.pk E.ds)∨(E.kd=2∧E = .X4 E.il):=by
 cases E with
 | none=>exact absurd rfl h
 | XS p d=>exact WQ ⟨rfl,rfl⟩
 | X4 l=>exact WG ⟨rfl,rfl⟩
def jF(k b:Nat)(oa:Option Addr)(n oc:Nat)(av ev lv:Value)(c:QN)(T:ZK)(R:Room)(ep:Int)(o:Op)(sa ba:Option Addr)(sl sc bl bc:Nat)(bs:List UInt8)(sv:Value)(w:World)
  (Ov:w.heap[k]?=some (.cells (Qx oa n oc av ev lv c.bad c.XE c.unknown c.refused 0 0 0 0 (some ⟨b,0,none⟩)) 44 (0,0))) (hR:ZI w b T) (hs:Wp T R) (hI:Inv R) (hS:Wc R) (py:XU w (.slice ba bl bc) bs) (h0:0≤ep) (h9:ep<1000000000) (hc:c.Below 1000000000) (pE:o.kind=1) :
  Calls prog 42 (Qu (some ⟨k,0,none⟩) (Jr o sa sl sc ba bl bc) ep) w (TV k b oa n oc av ev lv c (take R ep o bs sv) w):=by
 have HX:Hid (take R ep o bs sv=if(XX bs).2≠0 then((Ya 3 (XX bs).2,R),ep)else if !Y5 R o.peer then((Ya 4 0,R),ep)else match(XX bs).1 with
  | .XS p d=>((VK R ep o.peer p d,R),ep)
  | .X4 l=>((Uc (ep+1) l (Zw o.peer l R).1.1 (Zw o.peer l R).2,(Zw o.peer l R).1.2),ep+1)
  | .none=>((Uc (ep+1) [] [] 0,R),ep+1)):=by show _=_;unfold take;rw[ZU pE];rfl
 have ru:=Zh (fun(h:(XX bs).2=0)=>jW (gz h));have HSI:=Zh (fun(l:List Rc) (h:(XX bs).1 = .X4 l)=>zq h);have Vz:=ZY Ov;have WO:=hR.lt
 have gU:k≠b:=fun e=>by
  obtain⟨_,_,_,h,_⟩:=hR.Vm;rw[←e,Ov]at h;injection h with h
  injection h with _ h
  exact absurd h Zd
 obtain⟨⟨Nh,hc0⟩,⟨pM,fA⟩,⟨hu0,zJ⟩,⟨hr0,pA⟩⟩:=hc;obtain⟨kd,p,s,q,nm,ss⟩:=o;dsimp only at pE HX ⊢;subst pE;obtain⟨y0,y1,T8⟩:=VP w (Qa 1 p s q (str nm) sa sl sc ba bl bc) (Qb 0 0 0 0) 32 35;have U_:Hid (Below w w ((w.alloc (.cells (Qa 1 p s q (str nm) sa sl sc ba bl bc) 32)).alloc (.cells (Qb 0 0 0 0) 35))):=ZA (Z' w _) (Zq _) _;have CS:=Zh (Dk _ bs ((w.alloc (.cells (Qa 1 p s q (str nm) sa sl sc ba bl bc) 32)).alloc (.cells (Qb 0 0 0 0) 35)) (py.below U_.o));have HBLK:=Zh Ov;have Vb:=Zh hR;have HJ:=Zh (hs.Xw p);have L6:=Zh hs;have HII:=Zh hI;have Hi:=Zh hS;generalize take R ep ⟨1,p,s,q,nm,ss⟩ bs sv=X at *;generalize XX bs=SB at *;obtain⟨E,er⟩:=SB;dsimp only at CS HX ru HSI;clear Ov py hR hs hI hS;go_enter func42,ntmps42;go_upto_region 8 with(go_at_call 41;refine CS.o.mono ?_;rintro e w2 ⟨⟨a,rfl,LQ⟩,Y7⟩;obtain⟨cv,xv,pv,iv,rfl,G'⟩:=wX.form LQ;obtain⟨⟨ca,cc,G9⟩,⟨ea,ec,cH⟩,⟨pa,pc,Mk⟩⟩:=Vp.form G'.p;obtain⟨ia,ic,Ci⟩:=YB.form G'.i;dsimp only at G9 cH Mk Ci;subst G9;subst cH;subst Mk;subst Ci;dsimp only[Xb,SQ,VT,List.cons_append,IC];have GY:=Zh G'.i;have Yc:=Zh Y7;clear LQ G' Y7)
 clear CS;dsimp only at GY;generalize E.kd=K at *;generalize E.pk=P at *;generalize E.ds=d at *;generalize E.il=IL at *;have ye:=Z9 w2 (.cells (Jx K P ca cc ea ec pa pc d ia IL.length ic) 84);have WB:Hid (Below w w (w2.alloc (.cells (Jx K P ca cc ea ec pa pc d ia IL.length ic) 84))):=ZA (Tr U_ Yc.o) (Zq _) _;have hy0:=((Yc.o.trans ((Z' w2 (.cells (Jx K P ca cc ea ec pa pc d ia IL.length ic) 84)).mono Yc.o.size)).block _ (ZY y0)).trans y0;have D_:=((Yc.o.trans ((Z' w2 (.cells (Jx K P ca cc ea ec pa pc d ia IL.length ic) 84)).mono Yc.o.size)).block _ (ZY y1)).trans y1;have iF:=Zh (GY.o.below (Z' w2 (.cells (Jx K P ca cc ea ec pa pc d ia IL.length ic) 84)));have heb:w.heap.size+2≤w2.heap.size:=by have:=Yc.o.size;rw[T8]at this;exact this
 clear y0 y1 GY T8;generalize(w2.alloc (.cells (Jx K P ca cc ea ec pa pc d ia IL.length ic) 84))=w3 at *;generalize w2.heap.size=eb at *;have kW:=(WB.o.block _ Vz).trans HBLK.o;have bP:=Zh (Vb.o.below WB.o);have eX:Hid (Fr w (fun j=>j=k∨j=b) w w3):=Fr.Z8 _ WB.o;by_cases Rl:er=0
 rotate_left
 ·have bl:(er !=0)=true:=by rw[Rs];exact Rl
  have hX:X=((Ya 3 er,R),ep):=by rw[HX.o];exact ZU Rl
  have pj:=Zh hX;clear HX ru HSI hX Yc U_ iF ye hy0;go_upto_region 9 with fail
  have q8:w3.cell? ⟨k,4,none⟩=some (.int .i64 c.bad):=Zc kW 4 rfl;have f8:w3.frozen? ⟨k,4,none⟩=false:=ZP kW 4;have fq:=Zh (T9 bP.o (Fr.setAt (Fr.refl w3 (· = k) w3) 4 (.int .i64 (c.bad+1))) (UH kW Zd));have j_:=Zh (Vu kW 4 (.int .i64 (c.bad+1)));have eW:=Zh (eX.o.setCell (p:=⟨k,4,none⟩) (WG (WQ rfl)) (.int .i64 (c.bad+1)));have kj:=Zh ((L8 w3 ⟨k,4,none⟩ (.int .i64 (c.bad+1)) (w.heap.size+1) (by show _≠k;omega)).trans D_);clear kW D_;go_upto_region 10 with fail
  generalize w3.setCell ⟨k,4,none⟩ (.int .i64 (c.bad+1))=w8 at *;have y1:=kj.o;have kb:=j_.o;clear q8 f8;go_wp2_with (first|with_reducible refine Zs y1 ?_)
  refine Vr (v:= .agg (Qb 3 0 0 er)) ?_ rfl ?_
  ·exact VH (p:=6) Zr _ _ (w.heap.size+1) 35 (Qb 3 0 0 er) (0,0) _ Zr (setRow_heap _ _ _ _ _ _ y1) underlying35 rfl Zk
  exact Yt15
 subst Rl;have BC:=Zh (ru.o rfl);rw[Z3 (fun h=>h rfl)]at HX;have HY0:=Zh hy0;have KZ:=Zh D_;have HYE:=Zh ye;have gH:=Zh kW
 have Zv:Hid (∀w',Below w3 w3 w'→w'.cell? ⟨k,12,none⟩=some (.pointer (some ⟨b,0,none⟩))∧w'.cell? ⟨w,1,none⟩=some (.int .i64 p)∧w'.cell? ⟨eb,5,none⟩=some (.int .u32 P.Yi)∧w'.cell? ⟨eb,12,none⟩=some (.int .i64 d.ZC)):=fun w' h=>by
  have a1:=(h.block _ (ZY gH.o)).trans gH.o;have a2:=(h.block _ (ZY HY0.o)).trans HY0.o;have a3:=(h.block _ (ZY HYE.o)).trans HYE.o;exact⟨Zc a1 12 rfl,Zc a2 1 rfl,Zc a3 5 rfl,Zc a3 12 rfl⟩
 have CP:=Zh (R9 b T p w3.drew (bP.o.below (YE _ _).drew));clear ru U_ Yc hy0 D_ ye kW;generalize T.Xw p=tp at *;go_upto_region 11 with fail
 refine RX ?_;refine Zj (d:=6) (S:=(fun w'=>w'.cell? ⟨k,12,none⟩=some (.pointer (some ⟨b,0,none⟩))∧w'.cell? ⟨w,1,none⟩=some (.int .i64 p)∧w'.cell? ⟨eb,5,none⟩=some (.int .u32 P.Yi)∧w'.cell? ⟨eb,12,none⟩=some (.int .i64 d.ZC))) Zk ?_ (fun XY=>?_)
 ·exact Zv.o _ (YE _ _).drew
 refine YP 0 (h:=YP 1 (h:=YP 2 (h:=YP 4 (h:=YK 3 (h:=YK 5 (h:=?_))))));refine YR 6 (h:=fun K hK=>?_);go_simp;refine CP.o.mono ?_;rintro e w6 ⟨rfl,Cg⟩;have iw:Hid (Below w3 w3 w6):=(YE w3 w3).drew.trans Cg;clear Cg;go_wp2_with fail
 refine Ye hK _ _ Zk ?_;clear hK K;try simp only[pt]
 refine YP 7 (h:=YP 8 (h:=?_));refine Yt Zk ?_ _;refine QP ?_;clear CP;by_cases hj:0≤tp
 rotate_left
 ·have hjd:decide (tp<0)=true:=WV Zo;have hjn:Y5 R p=false:=by rw[JU];intro h;exact hj (HJ.o.2 h)
  have hX:X=((Ya 4 0,R),ep):=by rw[HX.o,hjn];rfl
  have pj:=Zh hX;have Cc:=Zh (iw.o);have kW:=(Cc.o.block _ (ZY gH.o)).trans gH.o;have D_:=(Cc.o.block _ (ZY KZ.o)).trans KZ.o;have xQ:=Zh (bP.o.below Cc.o);have AG:Hid (Fr w (fun j=>j=k∨j=b) w w6):=eX.o.trans (Fr.Z8 _ (Cc.o.mono eX.o.size));clear HX HJ hX hjn Zv iF;go_upto_region 12 with fail
  have q8:w6.cell? ⟨k,5,none⟩=some (.int .i64 c.XE):=Zc kW 5 rfl;have f8:w6.frozen? ⟨k,5,none⟩=false:=ZP kW 5;have fq:=Zh (T9 xQ.o (Fr.setAt (Fr.refl w6 (· = k) w6) 5 (.int .i64 (c.XE+1))) (UH kW Zd));have j_:=Zh (Vu kW 5 (.int .i64 (c.XE+1)));have eW:=Zh (AG.o.setCell (p:=⟨k,5,none⟩) (WG (WQ rfl)) (.int .i64 (c.XE+1)));have kj:=Zh ((L8 w6 ⟨k,5,none⟩ (.int .i64 (c.XE+1)) (w.heap.size+1) (by show _≠k;omega)).trans D_);clear kW D_;go_upto_region 13 with fail
  generalize w6.setCell ⟨k,5,none⟩ (.int .i64 (c.XE+1))=w8 at *;have y1:=kj.o;have kb:=j_.o;clear q8 f8;go_wp2_with (first|with_reducible refine Zs y1 ?_)
  refine Vr (v:= .agg (Qb 4 0 0 0)) ?_ rfl ?_
  ·exact VH (p:=6) Zr _ _ (w.heap.size+1) 35 (Qb 4 0 0 0) (0,0) _ Zr (setRow_heap _ _ _ _ _ _ y1) underlying35 rfl Zk
  exact Yt15
 have hjd:decide (tp<0)=false:=WH Zo;have hjn:Y5 R p=true:=HJ.o.1 hj;rw[hjn]at HX;rw[Z3 Zi]at HX;have e6:=(iw.o.block _ (ZY HYE.o)).trans HYE.o;have k0:w6.cell? ⟨eb,0,none⟩=some (.int .i64 K):=Zc e6 0 rfl;clear HJ hjn e6;rcases BC.o with⟨rfl,hE⟩|⟨rfl,hE⟩
 rotate_left
 ·subst hE;dsimp only at HX;have Pg:=Zh (HSI.o IL rfl);have HID:=Zh (P4 p IL R HII.o Hi.o Pg.o.1);have Cc:=Zh iw.o;have kW:=(Cc.o.block _ (ZY gH.o)).trans gH.o;have D_:=(Cc.o.block _ (ZY KZ.o)).trans KZ.o;have xQ:=Zh (bP.o.below Cc.o);have AG:Hid (Fr w (fun j=>j=k∨j=b) w w6):=eX.o.trans (Fr.Z8 _ (Cc.o.mono eX.o.size));have y0:=(Cc.o.block _ (ZY HY0.o)).trans HY0.o;have ye:=(Cc.o.block _ (ZY HYE.o)).trans HYE.o;have cZ:=Zh kW;have HY16:=Zh D_;have HY06:=Zh y0;have HYE6:=Zh ye;have iG:=Zh (iF.o.below Cc.o);have hid1:=HID.o.2.2.2.1;have hid2:=HID.o.2.2.2.2;have hid3:=Pg.o.2;have hbe:b≠eb:=by omega
  have Ph:Hid (∀w',Fr w6 (· = b) w6 w'→w'.cell? ⟨k,6,none⟩=some (.int .i64 c.unknown)∧w'.cell? ⟨k,12,none⟩=some (.pointer (some ⟨b,0,none⟩))∧w'.cell? ⟨w,1,none⟩=some (.int .i64 p)∧w'.cell? ⟨eb,16,none⟩=some (.slice ia IL.length ic)):=fun w' h=>by
   have a1:=(h.block _ (ZY cZ.o) gU).trans cZ.o;have a2:=(h.block _ (ZY HY06.o) Zo).trans HY06.o;have a3:=(h.block _ (ZY HYE6.o) (fun e=>hbe e.symm)).trans HYE6.o;exact⟨Zc a1 6 rfl,Zc a1 12 rfl,Zc a2 1 rfl,Zc a3 16 rfl⟩
  have CU:=Zh (zC b T R p _ IL w6.drew (xQ.o.below (YE _ _).drew) L6.o HII.o Hi.o (iG.o.below (YE _ _).drew) Pg.o.1 Pg.o.2);generalize Zw p IL R=ID at *;obtain⟨⟨D1,D2⟩,du⟩:=ID;dsimp only at HX CU hid1 hid2;clear kW D_ y0 ye Zv Pg HSI BC iG iF;go_upto_region 15 with fail
  refine RX ?_;refine Zj (d:=18) (S:=(fun w'=>w'.cell? ⟨k,6,none⟩=some (.int .i64 c.unknown)∧w'.cell? ⟨k,12,none⟩=some (.pointer (some ⟨b,0,none⟩))∧w'.cell? ⟨w,1,none⟩=some (.int .i64 p)∧w'.cell? ⟨eb,16,none⟩=some (.slice ia IL.length ic))) Zk ?_ (fun XY=>?_)
  ·first|exact Ph.o _ (Fr.Z8 _ (YE _ _).drew)|exact Ph.o _ gG.o
  refine YP 0 (h:=YP 1 (h:=YP 2 (h:=YP 3 (h:=YP 5 (h:=YP 6 (h:=YP 7 (h:=YP 9 (h:=YP 11 (h:=YQ 4 [] (h:=YQ 8 [] (h:=YQ 10 [] (h:=YQ 12 [] (h:=?_)))))))))))));refine YR 13 (h:=fun K hK=>?_);go_simp;refine CU.o.mono ?_;rintro e w7 ⟨rfl,⟨T7,fO,hs7⟩,fE⟩;have HR7:=Zh fO;have nj:=Zh hs7;have gG:Hid (Fr w6 (· = b) w6 w7):=(Fr.Z8 _ (YE w6 w6).drew).trans (fE.mono (YE w6 w6).drew.size (fun _ _ h=>h));have k7:=(gG.o.block _ (ZY cZ.o) gU).trans cZ.o;have f7:w7.frozen? ⟨k,6,none⟩=false:=ZP k7 6;have fq:=Zh (T9 fO (Fr.setAt (Fr.refl w7 (· = k) w7) 6 (.int .i64 (c.unknown+du))) (UH k7 Zd));have j_:=Zh (Vu k7 6 (.int .i64 (c.unknown+du)));have eW:=Zh (Fr.setCell (p:=⟨k,6,none⟩) (AG.o.trans (gG.o.mono AG.o.size (fun _ _ h=>WG h))) (WG (WQ rfl)) (.int .i64 (c.unknown+du)));have kj:=Zh ((L8 w7 ⟨k,6,none⟩ (.int .i64 (c.unknown+du)) (w.heap.size+1) (by show _≠k;omega)).trans ((gG.o.block _ (ZY HY16.o) Zo).trans HY16.o));clear fO hs7 fE k7 CU;go_wp2_with fail
  refine YY hK _ _ ?_ (fun XC=>?_)
  ·first|exact Ph.o _ (Fr.Z8 _ (YE _ _).drew)|exact Ph.o _ gG.o
  clear hK K;try simp only[pt]
  refine YP 14 (h:=YP 15 (h:=YP 16 (h:=YP 17 (h:=?_))));refine YR 18 (h:=fun K hK=>?_);go_simp;refine Ye hK _ _ Zk ?_;clear hK K;try simp only[pt]
  refine Yt Zk ?_ _;refine QP ?_;have hX:X=((Uc (ep+1) IL D1 du,D2),ep+1):=HX.o;have pj:=Zh hX;clear HX hX Ph;have y1:=kj.o;have kb:=j_.o;go_wp2_with (first|with_reducible refine Zs y1 ?_)
  refine Vr (v:= .agg (Qb 2 0 (ep+1) 0)) ?_ rfl ?_
  ·exact VH (p:=6) Zr _ _ (w.heap.size+1) 35 (Qb 2 0 (ep+1) 0) (0,0) _ Zr (setRow_heap _ _ _ _ _ _ y1) underlying35 rfl Zk
  exact TV.fin (T':=_) pj.o (by simp[QN.add,Uc,Uo]) kb fq.o nj.o eW.o Vz y1
 subst hE;dsimp only at HX;have LJ:=Zh (Dn L6.o HII.o p P.Yi);have HME:Hid (VK R ep p P d=if owned R p P.Yi&&decide ((T.of P.Yi).2.1=d.ZC)then{Uo with XR:=⟨1,(T.of P.Yi).1,ep,0⟩,XM:=P,WI:=d}else Ya 5 0):=by show _=_;rw[L6.o.of_eq HII.o];rfl
 generalize VK R ep p P d=M at *;have Cc:=Zh iw.o;have Ph:Hid (∀w',Below w6 w6 w'→w'.cell? ⟨k,12,none⟩=some (.pointer (some ⟨b,0,none⟩))∧w'.cell? ⟨w,1,none⟩=some (.int .i64 p)∧w'.cell? ⟨eb,5,none⟩=some (.int .u32 P.Yi)∧w'.cell? ⟨eb,12,none⟩=some (.int .i64 d.ZC)):=fun w' h=>Zv.o _ (Tr Cc h)
 have CO:=Zh (Kw b T P.Yi w6.drew (bP.o.below (Cc.o.drew)));have h_:=Zh (fun(x:Int) (w':World) (h:Below w6 w6 w')=>Oa b T x w' (bP.o.below (Tr Cc h)));generalize owned R p P.Yi=ow at *;generalize T.of P.Yi=O at *;obtain⟨O1,O2,O3⟩:=O;dsimp only at CO LJ HME;clear Zv iF HSI BC;go_upto_region 17 with fail
 refine RX ?_;refine Zj (d:=7) (S:=(fun w'=>w'.cell? ⟨k,12,none⟩=some (.pointer (some ⟨b,0,none⟩))∧w'.cell? ⟨w,1,none⟩=some (.int .i64 p)∧w'.cell? ⟨eb,5,none⟩=some (.int .u32 P.Yi)∧w'.cell? ⟨eb,12,none⟩=some (.int .i64 d.ZC))) Zk ?_ (fun XY=>?_)
 ·exact Ph.o _ (YE _ _).drew
 refine YP 0 (h:=YP 1 (h:=YP 2 (h:=YP 4 (h:=YP 5 (h:=YK 3 (h:=YK 6 (h:=?_)))))));refine YR 7 (h:=fun K hK=>?_);go_simp;refine CO.o.mono ?_;rintro e w7 ⟨rfl,LP⟩;have vI:Hid (Below w6 w6 w7):=(YE w6 w6).drew.trans LP;clear LP;go_wp2_with fail
 refine Ye hK _ _ Zk ?_;clear hK K;try simp only[pt]
 refine YP 8 (h:=YP 9 (h:=YP 10 (h:=YP 11 (h:=YP 12 (h:=YP 13 (h:=YP 14 (h:=?_)))))));refine Yt Zk ?_ _;refine QP ?_;clear CO;have hB7:=Zh (Tr Cc vI.o);have HMX:Hid (X=((M,R),ep)):=HX.o;clear HX;go_upto_region 18 with fail
 by_cases gX:O3=true∧O2=d.ZC
 rotate_left
 ·have hM:M=Ya 5 0:=by
   rw[HME.o];refine Z3 fun h=>gX ?_
   rw[UN,Su]at h;exact⟨(LJ.o.2 h.1).1,h.2⟩
  have hX:X=((Ya 5 0,R),ep):=by rw[HMX.o,hM]
  have pj:=Zh hX;obtain⟨z12,z1,z5,z4⟩:=Ph.o _ vI.o;clear HMX HME LJ hM hX h_;have Tx:O3=false∨(O3=true∧O2≠d.ZC):=by cases O3 <;> simp at gX ⊢;exact gX
  clear gX;rcases Tx with rfl|⟨rfl,gX⟩
  case' inr=>have YV:(O2 !=d.ZC)=true:=by rw[Rs];exact gX
  all_goals
   go_quiet (fail)
   have hB8:=Zh (below_drewN hB7.o nq);have kW:=(hB8.o.block _ (ZY gH.o)).trans gH.o;have D_:=(hB8.o.block _ (ZY KZ.o)).trans KZ.o;have xQ:=Zh (bP.o.below hB8.o);have AG:Hid (Fr w (fun j=>j=k∨j=b) w (w7.drewN nq)):=eX.o.trans (Fr.Z8 _ (hB8.o.mono eX.o.size));clear Ph z12 z1 z5 z4;generalize w7.drewN nq=w9 at *;go_upto_region 19 with fail
   have q8:w9.cell? ⟨k,6,none⟩=some (.int .i64 c.unknown):=Zc kW 6 rfl;have f8:w9.frozen? ⟨k,6,none⟩=false:=ZP kW 6;have fq:=Zh (T9 xQ.o (Fr.setAt (Fr.refl w9 (· = k) w9) 6 (.int .i64 (c.unknown+1))) (UH kW Zd));have j_:=Zh (Vu kW 6 (.int .i64 (c.unknown+1)));have eW:=Zh (AG.o.setCell (p:=⟨k,6,none⟩) (WG (WQ rfl)) (.int .i64 (c.unknown+1)));have kj:=Zh ((L8 w9 ⟨k,6,none⟩ (.int .i64 (c.unknown+1)) (w.heap.size+1) (by show _≠k;omega)).trans D_);clear kW D_;go_upto_region 20 with fail
   generalize w9.setCell ⟨k,6,none⟩ (.int .i64 (c.unknown+1))=w8 at *;have y1:=kj.o;have kb:=j_.o;clear q8 f8;go_wp2_with (first|with_reducible refine Zs y1 ?_)
   refine Vr (v:= .agg (Qb 5 0 0 0)) ?_ rfl ?_
   ·exact VH (p:=6) Zr _ _ (w.heap.size+1) 35 (Qb 5 0 0 0) (0,0) _ Zr (setRow_heap _ _ _ _ _ _ y1) underlying35 rfl Zk
   exact TV.fin (T':=_) pj.o (by simp[QN.add,Ya,Uo]) kb fq.o L6.o eW.o Vz y1
 obtain⟨rfl,gX⟩:=gX;have YV:(O2 !=d.ZC)=false:=by rw[gX,bne_self_eq_false]
 have CW:=Zh (h_.o O1 w7.drew (vI.o.trans (YE _ _).drew));generalize T.owner O1=tw at *;clear h_;refine RX ?_;refine Zj (d:=19) (S:=(fun w'=>w'.cell? ⟨k,12,none⟩=some (.pointer (some ⟨b,0,none⟩))∧w'.cell? ⟨w,1,none⟩=some (.int .i64 p)∧w'.cell? ⟨eb,5,none⟩=some (.int .u32 P.Yi)∧w'.cell? ⟨eb,12,none⟩=some (.int .i64 d.ZC))) Zk ?_ (fun XY=>?_)
 ·first|exact Ph.o _ (vI.o.trans ((YE w7 w7).drew.mono vI.o.size))|exact Ph.o _ (Tr vI HBG.o)
 refine YP 0 (h:=YP 1 (h:=YP 2 (h:=YP 3 (h:=YP 4 (h:=YP 5 (h:=YQ 6 [9,8,7] (h:=YP 7 (h:=YP 8 (h:=YP 9 (h:=YP 10 (h:=YP 11 (h:=YP 12 (h:=YP 14 (h:=YP 16 (h:=YQ 13 [18,15] (h:=YQ 17 [18] (h:=?_)))))))))))))))));refine YR 15 (h:=fun K hK=>?_);go_simp;refine CW.o.mono ?_;rintro e w9 ⟨rfl,rM⟩;have HBG:Hid (Below w7 w7 w9):=(YE w7 w7).drew.trans rM;clear rM;go_wp2_with fail
 refine YY hK _ _ ?_ (fun XC=>?_)
 ·first|exact Ph.o _ (vI.o.trans ((YE w7 w7).drew.mono vI.o.size))|exact Ph.o _ (Tr vI HBG.o)
 clear hK K;try simp only[pt]
 refine YP 18 (h:=?_);refine YR 19 (h:=fun K hK=>?_);go_simp;refine Ye hK _ _ Zk ?_;clear hK K;try simp only[pt]
 refine Yt Zk ?_ _;refine QP ?_;have hB9:=Zh (Tr hB7 HBG.o);have kW:=(hB9.o.block _ (ZY gH.o)).trans gH.o;have D_:=(hB9.o.block _ (ZY KZ.o)).trans KZ.o;have xQ:=Zh (bP.o.below hB9.o);have AG:Hid (Fr w (fun j=>j=k∨j=b) w w9):=eX.o.trans (Fr.Z8 _ (hB9.o.mono eX.o.size));clear Ph CW;by_cases htw:tw=p
 rotate_left
 ·have Y7:(tw !=p)=true:=by rw[Rs];exact htw
  have hM:M=Ya 5 0:=by
   rw[HME.o];refine Z3 fun h=>htw ?_
   rw[UN,Su]at h;exact(LJ.o.2 h.1).2
  have hX:X=((Ya 5 0,R),ep):=by rw[HMX.o,hM]
  have pj:=Zh hX;clear HMX HME LJ hM hX;go_upto_region 19 with fail
  have q8:w9.cell? ⟨k,6,none⟩=some (.int .i64 c.unknown):=Zc kW 6 rfl;have f8:w9.frozen? ⟨k,6,none⟩=false:=ZP kW 6;have fq:=Zh (T9 xQ.o (Fr.setAt (Fr.refl w9 (· = k) w9) 6 (.int .i64 (c.unknown+1))) (UH kW Zd));have j_:=Zh (Vu kW 6 (.int .i64 (c.unknown+1)));have eW:=Zh (AG.o.setCell (p:=⟨k,6,none⟩) (WG (WQ rfl)) (.int .i64 (c.unknown+1)));have kj:=Zh ((L8 w9 ⟨k,6,none⟩ (.int .i64 (c.unknown+1)) (w.heap.size+1) (by show _≠k;omega)).trans D_);clear kW D_;go_upto_region 20 with fail
  generalize w9.setCell ⟨k,6,none⟩ (.int .i64 (c.unknown+1))=w8 at *;have y1:=kj.o;have kb:=j_.o;clear q8 f8;go_wp2_with (first|with_reducible refine Zs y1 ?_)
  refine Vr (v:= .agg (Qb 5 0 0 0)) ?_ rfl ?_
  ·exact VH (p:=6) Zr _ _ (w.heap.size+1) 35 (Qb 5 0 0 0) (0,0) _ Zr (setRow_heap _ _ _ _ _ _ y1) underlying35 rfl Zk
  exact Yt15
 have Y7:(tw !=p)=false:=by rw[htw,bne_self_eq_false]
 have hX:X=(({Uo with XR:=⟨1,O1,ep,0⟩,XM:=P,WI:=d},R),ep):=by
  rw[HMX.o,HME.o,LJ.o.1 ⟨by trivial,htw⟩,gX,WV rfl];rfl
 have pj:=Zh hX;have y1:=D_;have kb:=kW;clear HMX HME LJ hX;go_wp2_with (first|with_reducible refine Zs y1 ?_)
 refine Vr (v:= .agg (Qb 1 O1 ep 0)) ?_ rfl ?_
 ·exact VH (p:=6) Zr _ _ (w.heap.size+1) 35 (Qb 1 O1 ep 0) (0,0) _ Zr (setRow_heap _ _ _ _ _ _ y1) underlying35 rfl Zk
 exact TV.fin (T':=_) pj.o (by simp[QN.add,Uo]) kb xQ.o L6.o AG.o Vz y1
def WX(n at':Int)(key:Int×Int)(Q:List Zt)(m:Nat):List Zt:=XB n at' (fun k=>decide (k=key)) (Q.take m)++Q.drop m
def A8(n at':Int)(key:Int×Int)(Q:List Zt)(m:Nat):(WX n at' key Q m).length=Q.length:=by
 unfold WX XB;rw[UC,Te,SC,QG];omega
def Ee(n at':Int)(key:Int×Int)(Q:List Zt):WX n at' key Q 0=Q:=by
 unfold WX XB;rw[List.take_zero,List.drop_zero];rfl
def A7(n at':Int)(key:Int×Int)(Q:List Zt){m:Nat}(h:Q.length≤m):WX n at' key Q m=XB n at' (fun k=>decide (k=key)) Q:=by
 unfold WX;rw[Ex h,List.drop_eq_nil_of_le h,rC]
def Ed(n at':Int)(key:Int×Int){Q:List Zt}{m:Nat}(hm:m<Q.length):WX n at' key Q (m+1)=if((WX n at' key Q m).getD m We).fin=n∧Wo ((WX n at' key Q m).getD m We)=key then(WX n at' key Q m).set m {(WX n at' key Q m).getD m We with fin:=at'}else WX n at' key Q m:=by
 have hl:(XB n at' (fun k=>decide (k=key)) (Q.take m)).length=m:=by unfold XB;rw[Te,SC];omega
 have e0:WX n at' key Q m=XB n at' (fun k=>decide (k=key)) (Q.take m)++Q[m] :: Q.drop (m+1):=by unfold WX;rw[List.drop_eq_getElem_cons hm]
 have e1:(WX n at' key Q m).getD m We=Q[m]:=by
  rw[e0,QQ,Z1d Zo,hl,Nat.sub_self];rfl
 have e2:WX n at' key Q (m+1)=XB n at' (fun k=>decide (k=key)) (Q.take m)++(if Q[m].fin=n∧decide (Wo Q[m]=key)=true then{Q[m]with fin:=at'}else Q[m]) :: Q.drop (m+1):=by
  unfold WX;rw[List.take_succ_eq_append_getElem hm];unfold XB;rw[Ng,bF];rfl
 rw[e1,e2];by_cases h:Q[m].fin=n∧Wo Q[m]=key
 ·rw[ZU h,ZU ⟨h.1,WV h.2⟩,e0,List.set_append_right _ _ Zo,hl,Nat.sub_self];rfl
 ·rw[Z3 h,Z3 (fun x=>h ⟨x.1,of_decide_eq_true x.2⟩),e0]
def l_(B k b:Nat)(oa:Option Addr)(n oc:Nat)(av ev lv uv:Value)(c0 c1 c2 c3:Int)(LS:List Zt)(T:ZK)(was:List Vd)(at':Int)(w:World)
  (Ov:w.heap[k]?=some (.cells (Qx oa n oc av ev lv c0 c1 c2 c3 0 0 0 0 (some ⟨b,0,none⟩)) 44 (0,0))) (hR:ZI w b T) (tZ:w.ownsRow B 59 4 lv LS.length (LS.flatMap Z5)) (fX:Row w 105 uv was.length (was.flatMap Zb)) :
  Calls prog 43 #[.pointer (some ⟨k,0,none⟩),uv,.int .i64 at'] w fun e w'=>e = .returned (.tuple #[])∧w'.ownsRow B 59 4 lv (Rh n at' T was LS).length ((Rh n at' T was LS).flatMap Z5)∧Fr w (fun j=>lv.ownBlock=some j) w w':=by
 obtain⟨la,lc,ub,AV⟩:=Row.Z4 tZ;subst ub;obtain⟨ua,uc,rfl⟩:=Row.form fX;have HK:Hid (∀w',Fr w (fun j=>(Value.slice la LS.length lc).ownBlock=some j) w w'→w'.heap[k]?=some (.cells #[.slice oa n oc,av,ev,.slice la LS.length lc,.int .i64 c0,.int .i64 c1,.int .i64 c2,.int .i64 c3,.int .i64 0,.int .i64 0,.int .i64 0,.int .i64 0,.pointer (some ⟨b,0,none⟩)] 44 (0,0))):=fun w' hf=>(hf.block k (ZY Ov) (fun e=>Y0 tZ Zd _ _ _ e Ov)).trans Ov
 have HR:Hid (∀w',Fr w (fun j=>(Value.slice la LS.length lc).ownBlock=some j) w w'→ZI w' b T):=fun w' hf=>T9 hR hf (QX tZ Zd)
 have HU:Hid (∀w',Fr w (fun j=>(Value.slice la LS.length lc).ownBlock=some j) w w'→Row w' 105 (.slice ua was.length uc) was.length (was.flatMap Zb)):=fun w' hf=>Row.fr fX hf (Zq _) (Y0 tZ Zd)
 have HL:=Zh tZ;have t_:=(Row.Z4 tZ).len;have hwl:=fX.len;rw[Mm];clear Ov hR tZ fX;go_enter func43,ntmps43;go_wp2_with fail
 go_loopw [11] (fun s11 w'=>∃i:Nat,i≤was.length∧s11 = .int .i64 (i:Int)∧w'.ownsRow B 59 4 (.slice la LS.length lc) LS.length ((Rh n at' T (was.take i) LS).flatMap Z5)∧Fr w (fun j=>(Value.slice la LS.length lc).ownBlock=some j) w w') (fun s11 _=>was.length-(intOf s11).toNat)
 case atStart=>exact⟨0,Zo,rfl,HL.o,Fr.refl _ _ _⟩
 case round=>
  obtain⟨i,hi,rfl,Yy,Wb⟩:=hrel;have TN:=Zh Wb;clear HL;by_cases kB:i<was.length
  ·obtain⟨g',off',e1,V5⟩:=UI Zb 4 (fun _=>rfl) (HU.o _ Wb) Zo;cases e1;have hx:was[i]?=some was[i]:=U' kB;have V5:=V5 i _ hx;have HT:=Zh (QD hx);clear hx;generalize was[i]=x at *;have Lc:=Zh (uE n at' T (was.take i) x LS);have hQl:=Mm n at' T (was.take i) LS;generalize Rh n at' T (was.take i) LS=Q at *;have Nk:wr.rangeAt g' (off'+i*4) (Ql x.peer x.source x.want x.ZV):=fun m v hm=>(V5 m (by have h:=(List.getElem?_eq_some_iff.1 hm).1;simpa using h)).trans hm
   have hiI:(i:Int)<(was.length:Int):=PM.2 kB;have hz:=Z9 wr (.cells (Ql 0 0 0 false) 105);have Ia:=setRow_heap _ _ _ (Ql x.peer x.source x.want x.ZV) _ _ hz;have PD:Hid (Below wr wr ((wr.alloc (.cells (Ql 0 0 0 false) 105)).setRow wr (Ql x.peer x.source x.want x.ZV))):=Z0 (Z' wr _) (Zq _) _;have Gv:Hid (Fr w (fun j=>(Value.slice la LS.length lc).ownBlock=some j) w ((wr.alloc (.cells (Ql 0 0 0 false) 105)).setRow wr (Ql x.peer x.source x.want x.ZV))):=Wb.trans (Fr.Z8 _ (PD.o.mono Wb.size));have aD:=Zh (Yq Yy PD.o);have fK:=HK.o _ Gv.o;clear V5 Wb Yy TN PD;go_upto_region 3 with(first|with_reducible refine Zm Nk underlying105 ?_|with_reducible refine Zs hz ?_)
   clear hz Nk;have gU:=ZY Ia;generalize((wr.alloc (.cells (Ql 0 0 0 false) 105)).setRow wr (Ql x.peer x.source x.want x.ZV))=w5 at *;generalize wr.heap.size=kb at *;have iY:=Zh Ia;obtain⟨xp,xs,xw,xz⟩:=x;have dD:=Zh (HR.o _ Gv.o);have CB:=Zh (Wd b T xp xs w5.drew (dD.o.below (YE w5 w5).drew));have HOO:Hid (Ps n at' T Q ⟨xp,xs,xw,xz⟩=if 0≤T.YZ xp xs then Q else XB n at' (fun k=>decide (k=(xp,xs))) Q):=rfl;generalize Ps n at' T Q ⟨xp,xs,xw,xz⟩=Q2 at *;generalize T.YZ xp xs=sa at *
   have Zv:Hid (∀w',Below w5 w5 w'→w'.cell? ⟨k,12,none⟩=some (.pointer (some ⟨b,0,none⟩))∧w'.cell? ⟨kb,0,none⟩=some (.int .i64 xp)∧w'.cell? ⟨kb,1,none⟩=some (.int .i64 xs)):=fun w' h=>by
    have a1:=(h.block _ (ZY fK)).trans fK;have a2:=(h.block _ gU).trans iY.o;exact⟨Zc a1 12 rfl,Zc a2 0 rfl,Zc a2 1 rfl⟩
   clear Ia;refine RX ?_;refine Zj (d:=8) (S:=(fun w'=>w'.cell? ⟨k,12,none⟩=some (.pointer (some ⟨b,0,none⟩))∧w'.cell? ⟨kb,0,none⟩=some (.int .i64 xp)∧w'.cell? ⟨kb,1,none⟩=some (.int .i64 xs))) Zk ?_ (fun XY=>?_)
   ·exact Zv.o _ (YE _ _).drew
   refine YP 0 (h:=YP 1 (h:=YP 2 (h:=YP 4 (h:=YP 6 (h:=YK 3 (h:=YK 5 (h:=YK 7 (h:=?_))))))));refine YR 8 (h:=fun K hK=>?_);go_simp;refine CB.o.mono ?_;rintro e w7 ⟨rfl,LP⟩;have HBC:=Zh LP;clear LP;go_wp2_with fail
   refine Ye hK _ _ Zk ?_;clear hK K;try simp only[pt]
   refine YP 9 (h:=?_);refine Yt Zk ?_ _;refine QP ?_;clear Zv CB;have zS:Hid (Below w5 w5 w7):=(YE w5 w5).drew.trans HBC.o;have gG:Hid (Fr w (fun j=>(Value.slice la LS.length lc).ownBlock=some j) w w7):=Gv.o.trans (Fr.Z8 _ (zS.o.mono Gv.o.size));have HO7:=Zh (Yq aD.o zS.o);have hx7:=(zS.o.block _ gU).trans iY.o;have hkb7:=Od gU zS.o.size;clear HBC zS Gv aD iY fK dD gU;by_cases hs:0≤sa
   ·have b1:decide (0≤sa)=true:=WV hs;have O5:Hid (Q2=Q):=by show _=_;rw[HOO.o,ZU hs]
    clear HOO;go_wp2_with fail
    go_roundw
    case rel=>exact⟨i+1,Zo,Zn,by rw[HT.o,Lc.o,O5.o];exact HO7.o,gG.o⟩
    case measure=>simp[intOf];omega
   have b1:decide (0≤sa)=false:=WH hs;have O5:Hid (Q2=XB n at' (fun k=>decide (k=(xp,xs))) Q):=by show _=_;rw[HOO.o,Z3 hs]
   clear HOO;have Ck:=HK.o _ gG.o;have k3:w7.cell? ⟨k,3,none⟩=some (.slice la LS.length lc):=Zc Ck 3 rfl;clear Ck;go_wp2_with fail
   go_loopw [30] (fun s30 w'=>∃m:Nat,m≤LS.length∧s30 = .int .i64 (m:Int)∧w'.ownsRow B 59 4 (.slice la LS.length lc) LS.length ((WX n at' (xp,xs) Q m).flatMap Z5)∧Fr w7 (fun j=>(Value.slice la LS.length lc).ownBlock=some j) w7 w') (fun s30 _=>LS.length-(intOf s30).toNat)
   case atStart=>exact⟨0,Zo,rfl,by rw[Ee];exact HO7.o,Fr.refl _ _ _⟩
   case round=>
    obtain⟨m,hm,rfl,Yy,Wb⟩:=hrel;have HF8:Hid (Fr w (fun j=>(Value.slice la LS.length lc).ownBlock=some j) w wr):=gG.o.trans (Wb.mono gG.o.size (fun _ _ h=>h));have HFI:=Zh Wb;have LJ:=Zh Yy;clear k3;by_cases MG:m<LS.length
    ·have fL:=HK.o _ HF8.o;have r0:wr.cell? ⟨k,0,none⟩=some (.slice oa n oc):=Zc fL 0 rfl;have r3:wr.cell? ⟨k,3,none⟩=some (.slice la LS.length lc):=Zc fL 3 rfl;have hx8:=(Wb.block _ hkb7 (fun e=>Y0 HO7.o Zd _ _ _ e hx7)).trans hx7;have q0:wr.cell? ⟨kb,0,none⟩=some (.int .i64 xp):=Zc hx8 0 rfl;have q1:wr.cell? ⟨kb,1,none⟩=some (.int .i64 xs):=Zc hx8 1 rfl;obtain⟨g,c9,cur,e9,-,Hz⟩:=LC Yy Zo;cases e9;have hPl:=A8 n at' (xp,xs) Q m;obtain⟨y0,y1,y3⟩:=rX Yy (m:=m) Zo;have fz:wr.frozen? ⟨g,m*4+3,none⟩=false:=ZP Hz _;have H_:=Ed n at' (xp,xs) (Q:=Q) (m:=m) Zo;generalize hP:WX n at' (xp,xs) Q m=P at *;clear hP;have kU:=FK at' P m Zo;have nD:(m:Int)<(LS.length:Int):=PM.2 MG;have Ad:=Zh H_;have DJ:=Zh kU;generalize P.getD m We=z at *;obtain⟨zp,zs,zb,zf⟩:=z;dsimp only[Wo]at y0 y1 y3 Ad DJ;clear Yy Wb fL hx8 Hz kU H_;go_upto_region 7 with fail
     by_cases hc:(zp=xp∧zs=xs)∧zf=(n:Int)
     ·obtain⟨⟨rfl,rfl⟩,rfl⟩:=hc;have iN:Hid (WX n at' (zp,zs) Q (m+1)=P.set m {peer:=zp,source:=zs,Mx:=zb,fin:=at'}):=by show _=_;rw[Ad.o];exact ZU ⟨rfl,rfl⟩
      have iU:Hid (∀w',Below wr wr w'→(w'.setCell ⟨g,m*4+3,none⟩ (.int .i64 at')).ownsRow B 59 4 (.slice (some ⟨g,0,none⟩) LS.length lc) LS.length ((P.set m {peer:=zp,source:=zs,Mx:=zb,fin:=at'}).flatMap Z5)):=fun w' hb=>by
       have h2:=OI (Yq LJ.o hb) Zo (m*4+3) (.int .i64 at');rw[DJ.o]at h2;exact h2
      clear Ad;go_quiet (fail)
      go_wp2;go_roundw
      case rel=>
       refine⟨m+1,Zo,Zn,?_,(HFI.o.trans (Fr.Z8 _ (below_drewN (YE _ _) _ |>.mono HFI.o.size))).setCell (p:=⟨g,m*4+3,none⟩) (WG rfl) _⟩;rw[iN.o];exact iU.o _ (below_drewN (YE _ _) _)
      case measure=>simp[intOf];omega
     ·have iN:Hid (WX n at' (xp,xs) Q (m+1)=P):=by show _=_;rw[Ad.o];exact Z3 (fun h=>hc ⟨by have h2:=h.2;rw[Prod.mk.injEq]at h2;exact h2,h.1⟩)
      clear Ad DJ;have Tx:zp≠xp∨(zp=xp∧zs≠xs)∨(zp=xp∧zs=xs∧zf≠(n:Int)):=by by_cases a:zp=xp <;> by_cases b:zs=xs <;> by_cases c:zf=(n:Int) <;> simp[a,b,c] <;> exact hc ⟨⟨a,b⟩,c⟩
      clear hc;rcases Tx with h|⟨rfl,h⟩|⟨rfl,rfl,h⟩
      case' inl=>have e1:(zp==xp)=false:=by rw[Wz];exact h
      case' inr.inl=>have e1:(zs==xs)=false:=by rw[Wz];exact h
      case' inr.inr=>have e1:(zf==(n:Int))=false:=by rw[Wz];exact h
      all_goals
       clear h;go_quiet (fail)
       go_wp2;go_roundw
       case rel=>exact⟨m+1,Zo,Zn,by rw[iN.o];exact Yq LJ.o (below_drewN (YE _ _) _),HFI.o.trans (Fr.Z8 _ ((below_drewN (YE _ _) _).mono HFI.o.size))⟩
       case measure=>simp[intOf];omega
    ·have hA:=A7 n at' (xp,xs) Q (m:=m) Zo;rw[hA]at Yy;have iM:=Zh Yy;clear Yy Wb LJ hA;go_wp2;go_roundw
     case rel=>exact⟨i+1,Zo,Zn,by rw[HT.o,Lc.o,O5.o];exact iM.o,HF8.o⟩
     case measure=>simp[intOf];omega
  ·have hT:was.take i=was:=Ex Zo;rw[hT]at Yy;have iM:=Zh Yy;clear Yy Wb hT;go_wp2;first|refine bodyPost_end (results_none Zr _ _ _) rfl ?_|refine Vr (results_none Zr _ _ _) rfl ?_
   exact⟨rfl,iM.o,TN.o⟩
def SD.fr{w w':World}{f d b:Nat}{F:wh}{S:Nat→Prop}(h:SD w f d b F)(hf:Fr w S w w')(h1:¬S f)(h2:¬S d)(h3:¬S b)(hS:∀k c fr,S k→w.heap[k]?≠some (.cells c 66 fr)):SD w' f d b F:=
 ⟨(hf.block f (ZY h.Y8) h1).trans h.Y8,h.TJ.fr hf h2 h3 hS⟩
def oM{c:QN}{n:Int}(h:c.Below n)(k:Int){u:Int}(h0:0≤u)(h1:u≤8000):(c.add k u).Below (n+8001):=by
 obtain⟨⟨a1,a2⟩,⟨b1,b2⟩,⟨c1,c2⟩,⟨d1,d2⟩⟩:=h;unfold QN.add;refine⟨?_,?_,?_,?_⟩ <;> dsimp only <;> split <;> omega
structure FS(w w':World)(f d b:Nat)(L:List WR)(av:Value)(j:Nat)(R:Room)(ep:Int)(c:QN):Prop where
 Za:Below w w w'
 front:SD w' f d b ⟨R,ep,c⟩
 row:Row w' 35 av L.length ((XV L L.length).flatMap VF)
 inv:Inv R
 Bl:Wc R
 bare:R.bare=(Yf L j).1
 eK:ep=(Yf L j).2
 xA:c.Below (8001*(j:Int))
 fg:w.heap.size≤f∧w.heap.size≤d∧w.heap.size≤b
def FS.below{w w1 w2:World}{f d b:Nat}{L:List WR}{av:Value}{j:Nat}{R:Room}{ep:Int}{c:QN}(h:FS w w1 f d b L av j R ep c)(hb:Below w1 w1 w2):FS w w2 f d b L av j R ep c:=
 ⟨h.Za.trans (hb.mono h.Za.size),h.front.below hb,Row.below h.row hb,h.inv,h.Bl,h.bare,h.eK,h.xA,h.fg⟩
