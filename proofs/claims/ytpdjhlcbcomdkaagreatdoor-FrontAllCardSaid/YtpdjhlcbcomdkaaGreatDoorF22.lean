/- Part of a proof. -/
import Derived.Test.YtpdjhlcbcomdkaaGreatDoorF21
set_option linter.unusedVariables false
set_option linter.unusedSimpArgs false
set_option maxRecDepth 100000
set_option maxHeartbeats 16000000
open Go Go.Q Go.Qr
namespace Go.Proofs.Rm
open Go.Proofs.N_ (may key)
open Go.Proofs.wQ
theorem Hy {α β:Type} {f g:α→List β}:∀ {l:List α},(∀ x∈l,f x=g x)→l.flatMap f=l.flatMap g
 | [],_=>rfl
 | x :: l,h=>by rw [List.flatMap_cons,List.flatMap_cons,h x (List.mem_cons_self ..),Hy fun y hy=>h y (List.mem_cons_of_mem _ hy)]
theorem SV {R:Room} {n:Nat}:Wu R n=true↔1≤n∧n<9∧(R.src n).there=true:=by
 rw [V6,Xf];constructor <;> (rintro ⟨a,b,c⟩;exact ⟨Zo,Zo,c⟩)
theorem Xi.ZP {p:Nat} (hp:1≤p∧p<9) {T:ZU} {R:Room} (h:Xi T R) (h0:∀ q,(R.sub 0 q).there=false):∀ k,k≤8→(ZU.ZP p T k).1=(Rm.ZP p R (k+1)).1∧Xi (ZU.ZP p T k).2 (Rm.ZP p R (k+1)).2
 | 0,_=>by
  rw [QY]
  have e:((Rm.ZP p R 0).2.sub 0 p).there=false:=h0 p
  rw [e]
  exact ⟨rfl,h⟩
 | k+1,hk=>by
  obtain ⟨h1,h2⟩:=Xi.ZP hp h h0 k Zo
  rw [Me,QY]
  have hs:=h2.Zx (p:Int) ((k:Int)+1)
  have e1:((k:Int)+1)=((k+1:Nat):Int):=by omega
  rw [e1] at hs ⊢
  cases ht:((Rm.ZP p R (k+1)).2.sub (k+1) p).there
  ·rw [Z6 (by rw [hs,Vq];rintro ⟨_,_,_,_,h⟩;rw [ht] at h;cases h),Z6 Zd]
   exact ⟨h1,h2⟩
  ·have hh:ZH (Rm.ZP p R (k+1)).2 p (k+1:Nat)=true:=Vq.2 ⟨hp.1,hp.2,Zo,Zo,ht⟩
   rw [ZX (hs.2 hh),ZX rfl]
   exact ⟨by dsimp only;rw [h1],h2.Xk hh⟩
theorem Xi.ZM {p:Nat} (hp:1≤p) {T:ZU} {X:Room} (h:Xi T X) (h0:(X.src 0).there=false):∀ k,k≤8→(ZU.ZM p T k).1=(Rm.ZM X p (k+1)).1∧Xi (ZU.ZM p T k).2 (Rm.ZM X p (k+1)).2
 | 0,_=>by
  rw [QZ,h0]
  exact ⟨rfl,h⟩
 | k+1,hk=>by
  obtain ⟨h1,h2⟩:=Xi.ZM hp h h0 k Zo
  rw [Mf,QZ]
  have e1:((k:Int)+1)=((k+1:Nat):Int):=by omega
  rw [e1,h2.owner]
  have QP:(Rm.ZM X p (k+1)).2.src (k+1)=X.src (k+1):=by rw [Pk,Z6 Zo]
  by_cases ht:(X.src (k+1)).there=true∧(X.src (k+1)).own=p
  ·have hi:Wu (Rm.ZM X p (k+1)).2 ((k+1:Nat):Int)=true:=SV.2 ⟨Zo,Zo,by rw [QP];exact ht.1⟩
   have hg:=h2.gone hi
   rw [hi,ZX rfl,Xf,QP,ZX ht.2,ZX (by rw [ht.1,ht.2];simp)]
   exact ⟨by dsimp only;rw [h1,hg.1],hg.2⟩
  ·have hn:¬(((X.src (k+1)).there && decide ((X.src (k+1)).own=(p:Int)))=true):=by
    rw [Ui,decide_eq_true_iff];exact ht
   rw [Z6 hn]
   cases hi:Wu (Rm.ZM X p (k+1)).2 ((k+1:Nat):Int)
   ·rw [Z6 (show ¬(false=true) by decide),Z6 Zo]
    exact ⟨h1,h2⟩
   ·have ht1:(X.src (k+1)).there=true:=by have:=(SV.1 hi).2.2;rwa [QP] at this
    rw [ZX rfl,Xf,QP,Z6 (fun e=>ht ⟨ht1,e⟩)]
    exact ⟨h1,h2⟩
theorem Xi.leave {T:ZU} {R:Room} (h:Xi T R) (hI:Inv R) {p:Nat} (hj:Zz R p=true):(T.leave p).1=(Rm.leave R p).1∧Xi (T.leave p).2 (Rm.leave R p).2:=by
 obtain ⟨a,b,c⟩:=VF.1 hj
 obtain ⟨h1,h2⟩:=h.ZP (p:=p) Zo (fun q=>by
  rw [Ls];intro e;have:=(hI.Zx 0 q e).1;omega) 8 Zo
 have hn:=Sd R p 9
 obtain ⟨h3,h4⟩:=h2.ZM (p:=p) Zo (by rw [hn.2];exact hI.Q_.2) 8 Zo
 unfold ZU.leave Rm.leave
 refine ⟨by dsimp only;rw [h1,h3],h4.Po ?_⟩
 rw [LX (R:=R) (by rw [Pj,hn.1])]
 exact hj
theorem Xi.ask {T:ZU} {R:Room} (h:Xi T R) {p n:Nat} (hs:Wu R n=true) (_hh:ZH R p n=true):T.ask (Vx R p n)=asks R p n:=by
 unfold ZU.ask asks
 have e:(Vx R p n).source=(n:Int):=rfl
 rw [e,h.Xb hs]
 unfold Vh Vx
 rw [Xf,Xf]
theorem Xi.waits {T:ZU} {R:Room} (h:Xi T R) {p n:Nat} (hs:Wu R n=true) (hh:ZH R p n=true) {t:YE} :
  (t :: (if (Vx R p n).ZR || (T.Xb n).ZE then [] else [T.ask (Vx R p n)]))=t :: Rm.waits R p n:=by
 rw [h.ask hs hh,h.Xb hs]
 unfold Rm.waits Vx Vh
 rw [Xf,Xf]
theorem Xi.mute {T:ZU} {R:Room} (h:Xi T R) {n:Nat} (hs:Wu R n=true) (on:Bool):(T.mute n on).1=(Rm.mute R n on).1∧Xi (T.mute n on).2 (Rm.mute R n on).2:=by
 have h1:=h.ZN hs on
 refine ⟨?_,h1⟩
 unfold ZU.mute Rm.mute
 dsimp only
 rw [h1.LN]
 generalize hR1:R.Zt n {R.src n with ZE:=on}=R1 at *
 have r_:(R1.src n).ZE=on:=by rw [←hR1,Xa,ZX rfl]
 have sw:Wu R1 n=true:=by
  rw [SV] at hs ⊢
  exact ⟨hs.1,hs.2.1,by rw [←hR1,Xa,ZX rfl];exact hs.2.2⟩
 apply Hy
 intro p hp
 have hh:ZH R1 p n=true:=(lq.1 hp).2
 unfold ZU.Y_ Y_
 cases on
 ·rw [Z6 (show ¬(false=true) by decide),Z6 (show ¬(false=true) by decide),h1.Sl hh,h1.ask sw hh]
  unfold Rm.waits
  rw [r_,Bool.or_false]
  unfold Vx;rw [Xf,Xf]
 ·rfl
theorem vz {R:Room} (hI:Inv R) {p n:Nat} (hh:ZH R p n=true):Wu R n=true:=by
 obtain ⟨_,_,c,d,e⟩:=Vq.1 hh
 exact SV.2 ⟨c,d,(hI.Zx n p e).2.2.2.2.1⟩
theorem O7 {T:ZU} {R:Room} (h:Xi T R) {p n:Nat} {kd la:Int} {nm:List UInt8} {ss:List Int} (hh:ZH R p n=true) (k:Int) :
  T.changed ⟨kd,p,n,la,nm,ss⟩ k=(if k=4 then ⟨p,n,(R.sub n p).want,true⟩ else if k=5 then ⟨p,n,(R.sub n p).want,false⟩ else ⟨p,n,la,(R.sub n p).ZR⟩):=by
 unfold ZU.changed
 dsimp only
 rw [h.Sl hh]
 unfold Vx
 rw [Xf,Xf]
theorem Xi.change {T:ZU} {R:Room} (h:Xi T R) (hI:Inv R) {p n:Nat} {kd la:Int} {nm:List UInt8} {ss:List Int} (hh:ZH R p n=true) (k:Int) (x:Sub) (hx:x.there=true) (hc:T.changed ⟨kd,p,n,la,nm,ss⟩ k=⟨p,n,x.want,x.ZR⟩) :
  (T.change ⟨kd,p,n,la,nm,ss⟩ k).1=⟨k,p,n,if k=8 then la else 0,0⟩ :: Rm.waits (R.ZZ n p x) p n∧Xi (T.change ⟨kd,p,n,la,nm,ss⟩ k).2 (R.ZZ n p x):=by
 have h1:=h.ZZ hh x hx
 have hs:=vz hI hh
 have sw:Wu (R.ZZ n p x) n=true:=hs
 have hh1:ZH (R.ZZ n p x) p n=true:=by
  rw [Vq] at hh ⊢
  exact ⟨hh.1,hh.2.1,hh.2.2.1,hh.2.2.2.1,by rw [WM];exact hx⟩
 have hso:Vx (R.ZZ n p x) p n=⟨p,n,x.want,x.ZR⟩:=by unfold Vx;rw [Xf,Xf,WM]
 have hw:=h1.waits sw hh1 (t:=⟨k,p,n,if k=8 then la else 0,0⟩)
 rw [hso] at hw
 unfold ZU.change
 dsimp only
 rw [hc]
 exact ⟨hw,h1⟩
theorem Xi.turns {T:ZU} {R:Room} (h:Xi T R) (hI:Inv R) {o:Op} (ok:Ok R o) (sv:Value):(T.turns o).1=(turns R o sv).1∧Xi (T.turns o).2 (turns R o sv).2:=by
 obtain ⟨kd,p,n,la,nm,ss⟩:=o
 obtain ⟨hk,hp,hj,ht,hs,yZ,oJ,MN⟩:=ok
 dsimp only at *
 obtain ⟨p,rfl⟩:=Rn (show 0≤p by omega)
 by_cases k2:kd=2
 ·subst k2
  obtain ⟨h1,h2,h3⟩:=xP (hj rfl)
  rw [show T.turns ⟨2,p,n,la,nm,ss⟩=([],T.R_ ⟨p,nm⟩) from rfl,show Rm.turns R ⟨2,p,n,la,nm,ss⟩ sv=([],R.setName p nm) by simp [Rm.turns]]
  exact ⟨rfl,h.R_ (p:=p) Zo h1 nm (sY h2)⟩
 have hj1:=ht k2
 by_cases k3:kd=3
 ·subst k3
  rw [show T.turns ⟨3,p,n,la,nm,ss⟩=T.leave p from rfl,show Rm.turns R ⟨3,p,n,la,nm,ss⟩ sv=Rm.leave R p by simp [Rm.turns]]
  exact h.leave hI hj1
 obtain ⟨n,rfl⟩:=Rn (show 0≤n by have:=hs Zo;omega)
 have hn:=hs Zo
 by_cases k4:kd=4
 ·subst k4
  obtain ⟨_,_,_,h4,_,_⟩:=IE (yZ rfl)
  have Le:Wu R n=false:=by
   rw [Ls,ne_eq,V6]
   rintro ⟨_,_,c⟩
   dsimp only at h4
   rw [h4] at c;cases c
  rw [show T.turns ⟨4,p,n,la,nm,ss⟩=([],T.O4 ⟨n,p,ss,false⟩) from rfl,show Rm.turns R ⟨4,p,n,la,nm,ss⟩ sv=([],R.Zt n ⟨true,n,p,sv,ss,false⟩) by simp [Rm.turns]]
  exact ⟨rfl,h.O4 (n:=n) Zo Le ⟨true,n,p,sv,ss,false⟩ rfl⟩
 have fB:=oJ Zo
 have Od:=MN Zo
 rw [Xf] at fB
 have sx:Wu R n=true:=SV.2 ⟨Zo,Zo,fB⟩
 by_cases k5:kd=5
 ·subst k5
  rw [show T.turns ⟨5,p,n,la,nm,ss⟩=T.YD n from rfl,show Rm.turns R ⟨5,p,n,la,nm,ss⟩ sv=Rm.gone R n by simp [Rm.turns]]
  exact h.gone sx
 by_cases k6:kd=6
 ·subst k6
  obtain ⟨h1,h2,h3⟩:=Pz Od rfl
  dsimp only at h1 h2 h3
  rw [Xf,Xf] at h2
  have Le:ZH R p n=false:=by
   rw [Ls,ne_eq,Vq]
   rintro ⟨_,_,_,_,e⟩;rw [h2] at e;cases e
  have Nk:=h.Wz (p:=p) (n:=n) Zo Zo Le ⟨true,false,la⟩ rfl
  have dC:Wu (R.ZZ n p ⟨true,false,la⟩) n=true:=sx
  have hh2:ZH (R.ZZ n p ⟨true,false,la⟩) p n=true:=Vq.2 ⟨Zo,Zo,Zo,Zo,by rw [WM]⟩
  rw [show T.turns ⟨6,p,n,la,nm,ss⟩=T.subscribe ⟨6,p,n,la,nm,ss⟩ from rfl,show Rm.turns R ⟨6,p,n,la,nm,ss⟩ sv=begin R ⟨6,p,n,la,nm,ss⟩ by simp [Rm.turns]]
  refine ⟨?_,by unfold begin;dsimp only;rw [Xf,Xf];exact Nk⟩
  unfold ZU.subscribe begin
  dsimp only
  rw [Nk.Xb dC]
  have hso:Vx (R.ZZ n p ⟨true,false,la⟩) p n=⟨p,n,la,false⟩:=by unfold Vx;rw [Xf,Xf,WM]
  have ha:=Nk.ask dC hh2
  rw [hso] at ha
  rw [ha]
  unfold Vh
  rw [Xf,Xf]
  rfl
 by_cases k8:kd=8
 ·subst k8
  rw [show T.turns ⟨8,p,n,la,nm,ss⟩=T.mute n true from rfl,show Rm.turns R ⟨8,p,n,la,nm,ss⟩ sv=Rm.mute R n true by simp [Rm.turns]]
  exact h.mute sx true
 by_cases k9:kd=9
 ·subst k9
  rw [show T.turns ⟨9,p,n,la,nm,ss⟩=T.mute n false from rfl,show Rm.turns R ⟨9,p,n,la,nm,ss⟩ sv=Rm.mute R n false by simp [Rm.turns]]
  exact h.mute sx false
 have AB:=Uj Od UL
 have lU:ZH R p n=true:=by
  have:=AB.1
  dsimp only at this
  rw [Xf,Xf] at this
  exact Vq.2 ⟨Zo,Zo,Zo,Zo,this⟩
 have jN:=(Vq.1 lU).2.2.2.2
 by_cases k7:kd=7
 ·subst k7
  rw [show T.turns ⟨7,p,n,la,nm,ss⟩=([⟨2,p,n,0,0⟩],T.Xk p n) from rfl,show Rm.turns R ⟨7,p,n,la,nm,ss⟩ sv=([⟨2,p,n,0,0⟩],R.ZZ n p VJ) by simp [Rm.turns]]
  exact ⟨rfl,h.Xk lU⟩
 by_cases k10:kd=10
 ·subst k10
  have hc:=O7 h (kd:=10) (la:=la) (nm:=nm) (ss:=ss) lU 4
  rw [ZX rfl] at hc
  rw [show T.turns ⟨10,p,n,la,nm,ss⟩=T.change ⟨10,p,n,la,nm,ss⟩ 4 from rfl,show Rm.turns R ⟨10,p,n,la,nm,ss⟩ sv=([⟨4,p,n,0,0⟩],R.ZZ n p {R.sub n p with ZR:=true}) by simp [Rm.turns]]
  have:=h.change hI (kd:=10) (la:=la) (nm:=nm) (ss:=ss) lU 4 {R.sub n p with ZR:=true} jN hc
  have xD:=this.1
  have hwt:Rm.waits (R.ZZ n p {R.sub n p with ZR:=true}) p n=[]:=by unfold Rm.waits;rw [WM];rfl
  rw [Z6 Zd,hwt] at xD
  exact ⟨xD,this.2⟩
 by_cases k11:kd=11
 ·subst k11
  have hc:=O7 h (kd:=11) (la:=la) (nm:=nm) (ss:=ss) lU 5
  rw [Z6 Zd,ZX rfl] at hc
  rw [show T.turns ⟨11,p,n,la,nm,ss⟩=T.change ⟨11,p,n,la,nm,ss⟩ 5 from rfl,show Rm.turns R ⟨11,p,n,la,nm,ss⟩ sv=(⟨5,p,n,0,0⟩ :: Rm.waits (R.ZZ n p {R.sub n p with ZR:=false}) p n,R.ZZ n p {R.sub n p with ZR:=false}) by simp [Rm.turns]]
  have:=h.change hI (kd:=11) (la:=la) (nm:=nm) (ss:=ss) lU 5 {R.sub n p with ZR:=false} jN hc
  have xD:=this.1
  rw [Z6 Zd] at xD
  exact ⟨xD,this.2⟩
 ·obtain rfl:kd=12:=by omega
  have hc:=O7 h (kd:=12) (la:=la) (nm:=nm) (ss:=ss) lU 8
  rw [Z6 Zd,Z6 Zd] at hc
  rw [show T.turns ⟨12,p,n,la,nm,ss⟩=T.change ⟨12,p,n,la,nm,ss⟩ 8 from rfl,show Rm.turns R ⟨12,p,n,la,nm,ss⟩ sv=(⟨8,p,n,la,0⟩ :: Rm.waits (R.ZZ n p {R.sub n p with want:=la}) p n,R.ZZ n p {R.sub n p with want:=la}) by simp [Rm.turns]]
  have:=h.change hI (kd:=12) (la:=la) (nm:=nm) (ss:=ss) lU 8 {R.sub n p with want:=la} jN hc
  have xD:=this.1
  rw [ZX rfl] at xD
  exact ⟨xD,this.2⟩
theorem Xi.W9 {T:ZU} {R:Room} (h:Xi T R) (hI:Inv R) (o:Op) (sv:Value):(T.W9 o).1.1=(W9 R o sv).1.1∧(T.W9 o).2=(W9 R o sv).2∧Xi (T.W9 o).1.2 (W9 R o sv).1.2:=by
 unfold ZU.W9 Rm.W9
 rw [h.Db hI]
 by_cases hw:Yo R o≠0
 ·rw [ZX hw,ZX hw];exact ⟨rfl,rfl,h⟩
 ·rw [Z6 hw,Z6 hw]
  have:=h.turns hI (QH (Classical.not_not.1 hw)) sv
  exact ⟨this.1,rfl,this.2⟩
theorem Xi.Y7 {T:ZU} {R:Room} (h:Xi T R) (hI:Inv R) (p x:Int):(T.Y7 p x).1.1=(Y7 R p x).1.1∧(T.Y7 p x).2=(Y7 R p x).2∧Xi (T.Y7 p x).1.2 (Y7 R p x).1.2:=by
 unfold ZU.Y7 Rm.Y7
 rw [h.of_eq hI,h.owner]
 cases ho:(of R x).2.2
 ·exact ⟨rfl,rfl,h⟩
 ·obtain ⟨m,hm,ht,hx,he⟩:=Ra ho
  obtain ⟨Az,_⟩:=hI.Zq m ht
  have hs:Wu R (m:Int)=true:=SV.2 ⟨Az,hm,ht⟩
  rw [he]
  dsimp only
  rw [hs,ZX rfl,Xf]
  cases hj:Zz R p
  ·rw [h.Ma hj];exact ⟨rfl,rfl,h⟩
  ·have hpp:=(h.Yx p).2 hj
   have e1:decide (T.Yx p<0)=false:=WN Zo
   rw [e1]
   by_cases YO:(R.src m).own=p
   ·have e2:decide ((R.src m).own≠p)=false:=WN (by simp [YO])
    rw [e2]
    have hg:=h.gone hs
    exact ⟨hg.1,rfl,hg.2⟩
   ·have e2:decide ((R.src m).own≠p)=true:=Ws YO
    rw [e2];exact ⟨rfl,rfl,h⟩
theorem Xi.table {T:ZU} {R:Room} (h:Xi T R) (hI:Inv R):T.table=Rm.table R:=by
 unfold ZU.table Rm.table
 have e9:(List.range 9)=0 :: (List.range 8).map (· + 1):=by decide
 congr 1
 ·unfold ZU.YU Tw
  rw [e9,List.filter_cons,Z6 (by rw [VF];simp),List.filter_map,List.map_map]
  generalize List.range 8=l
  induction l with
  | nil=>rfl
  | cons k l ih=>
   rw [List.flatMap_cons,List.filter_cons,ih]
   have e1:((k:Int)+1)=((k+1:Nat):Int):=by omega
   rw [e1]
   cases hj:Zz R ((k+1:Nat):Int)
   ·have cI:Zz R ((k:Int)+1)=false:=by rw [e1];exact hj
    rw [h.Ma hj,Z6 Zd,Z6 (by simp [cI])];rfl
   ·obtain ⟨i,hi,h1,h2⟩:=h.Mb hj
    rw [ZX ((h.Yx _).2 hj),ZX (by simpa using hj),h1,Xf,Sq,VQ hi,h2]
    rfl
 ·unfold ZU.Vi QC
  have h00:Pb R 0=false:=rfl
  rw [e9,List.filter_cons,Z6 (by rw [h00];decide),List.filter_map,List.map_map]
  generalize List.range 8=l
  induction l with
  | nil=>rfl
  | cons k l ih=>
   rw [List.flatMap_cons,List.filter_cons,ih]
   have e1:((k:Int)+1)=((k+1:Nat):Int):=by omega
   rw [e1]
   have fh:Pb R (k+1)=Wu R ((k+1:Nat):Int):=by unfold Pb Wu;rw [Xf]
   cases hj:Wu R ((k+1:Nat):Int)
   ·have cI:Wu R ((k:Int)+1)=false:=by rw [e1];exact hj
    rw [h.ED hj,Z6 Zd,Z6 (by simp [fh,cI])];rfl
   ·rw [ZX ((h.Zq _).2 hj),ZX (by simpa [fh] using hj),h.Xb hj]
    have hnum:=(hI.Zq (k+1) (SV.1 hj).2.2).2.2.1
    unfold Vh
    rw [Xf,←hnum]
    rfl
 ·unfold ZU.Xw Sy
  have y_:Z8 R ((0:Nat):Int)=[]:=by
   unfold Z8;rw [List.filter_eq_nil_iff];intro p _;unfold ZH WB;simp
  rw [e9,List.flatMap_cons,y_,List.flatMap_map]
  show _=[]++_
  rw [KF]
  apply Hy
  intro k _
  have e1:((k:Int)+1)=((k+1:Nat):Int):=by omega
  rw [e1,h.LN]
  unfold ZU.Vy SJ
  apply List.map_congr_left
  intro p hp
  rw [h.Sl (lq.1 hp).2]
  unfold Vx;rw [Xf,Xf]
theorem Xi.ok {T:ZU} {R:Room} (h:Xi T R) (hI:Inv R) {o:Op} (hw:T.Yo o=0):uR T o:=by
 have ok:=QH (show Yo R o=0 by rw [←h.Db hI];exact hw)
 obtain ⟨kd,p,n,la,nm,ss⟩:=o
 obtain ⟨hk,hp,hj,ht,hs,yZ,oJ,MN⟩:=ok
 dsimp only at *
 have QP:5≤kd→Wu R n=true:=fun vC=>V6.2 ⟨(hs Zo).1,(hs Zo).2,oJ vC⟩
 have dF:kd=7∨10≤kd→ZH R p n=true:=fun Fs=>by
  have AB:=(Uj (MN Zo) UL).1
  have:=hs Zo
  exact Tj.2 ⟨hp.1,hp.2,this.1,this.2,AB⟩
 have TW:∀ q m:Int,ZH R q m=true→0≤(R.sub m.toNat q.toNat).want∧(R.sub m.toNat q.toNat).want<(R.src m.toNat).ss.length:=fun q m hh=>by
  have:=hI.Zx m.toNat q.toNat (Tj.1 hh).2.2.2.2
  exact ⟨this.2.2.2.2.2.2.2.1,this.2.2.2.2.2.2.2.2⟩
 refine ⟨hk,hp.1,fun hk4=>?_,fun hk3=>(h.Yx p).2 (ht (by have h3:kd=3:=hk3;omega)),fun vC=>(h.Zq n).2 (QP vC),fun hk6=>?_,fun Fs=>(h.Zx p n).2 (dF Fs),fun VD=>?_,?_⟩
 ·exact (IE (yZ hk4)).2.1
 ·have hk6:kd=6:=hk6
  have h3:=(Pz (MN Zo) hk6).2.2
  have:=PZ h3
  dsimp only
  rw [h.Xb (QP Zo)]
  exact this
 ·intro x hx hxn
  dsimp only at hxn ⊢
  have VD:kd=9:=VD
  have sx:=QP Zo
  obtain ⟨m,rfl⟩:=Rn (show 0≤n by have:=(V6.1 sx).1;omega)
  have h1:=h.ZN sx false
  have dB:Wu (R.Zt m {R.src m with ZE:=false}) m=true:=by
   rw [SV] at sx ⊢
   exact ⟨sx.1,sx.2.1,by rw [Xa,ZX rfl];exact sx.2.2⟩
  refine ⟨(h1.Zq _).2 dB,?_⟩
  have OY:=(h.Jz (x:=x)).1 hx
  rw [h1.Xb dB,OY.2]
  unfold Vh Vx
  dsimp only
  rw [hxn,Xf,Xa,ZX rfl]
  have:=TW x.peer x.source OY.1
  rw [hxn,Xf] at this
  exact this
 ·intro k ux
  have ux:kd=10∧k=4∨kd=11∧k=5∨kd=12∧k=8:=ux
  have r7:kd=7∨10≤kd:=by omega
  have hh:=dF r7
  have fC:=TW p n hh
  obtain ⟨p,rfl⟩:=Rn (show 0≤p by omega)
  obtain ⟨n,rfl⟩:=Rn (show 0≤n by have:=hs Zo;omega)
  rw [O7 h hh k]
  dsimp only
  rw [h.Xb (QP Zo)]
  unfold Vh
  dsimp only
  rw [Xf,Xf] at fC
  rw [Xf]
  rcases ux with ⟨_,rfl⟩|⟨_,rfl⟩|⟨h12,rfl⟩
  ·exact fC
  ·exact fC
  ·have h4:=(Uj (MN Zo) UL).2.2.2 h12
   have h5:=PZ h4.1
   dsimp only at h5
   rw [Xf] at h5
   exact h5
end Go.Proofs.Rm
namespace Go.Proofs.Rm
open Go.RowKit Go.Proofs.Heap Go.Proofs.Mem
open Go.Proofs.N_ (may key Xe)
open Go.Proofs.wQ
theorem Mu {α κ:Type} [DecidableEq κ] (key:α→κ):∀ (l:List α) (K:List κ),OM key l→(∀ x∈l,key x∈K)→l.length≤K.length
 | [],_,_,_=>TS _
 | x :: l,K,hu,hk=>by
  obtain ⟨h1,h2⟩:=(QG key).1 hu
  have hx:=hk x (List.mem_cons_self ..)
  have:=Mu key l (K.erase (key x)) h2 (fun y hy=>(List.mem_erase_of_ne (h1 y hy)).2 (hk y (List.mem_cons_of_mem _ hy)))
  rw [List.length_erase_of_mem hx] at this
  have hp:0<K.length:=List.length_pos_of_mem hx
  rw [List.length_cons];omega
theorem Xi.small {T:ZU} {R:Room} (h:Xi T R):T.Small:=by
 have hm:∀ n:Int,1≤n→n<9→n∈[(1:Int),2,3,4,5,6,7,8]:=fun n h1 h2=>by
  have:n=1∨n=2∨n=3∨n=4∨n=5∨n=6∨n=7∨n=8:=by omega
  rcases this with rfl|rfl|rfl|rfl|rfl|rfl|rfl|rfl <;> simp
 refine ⟨?_,?_,?_⟩
 ·refine Rh (Mu WU.num T.ZK [1,2,3,4,5,6,7,8] h.up fun x hx=>?_) Zd
  obtain ⟨n,hn,rfl⟩:=h.L3.1 hx
  have:=VF.1 hn
  exact hm n this.1 this.2.1
 ·refine Rh (Mu XK.num T.Yv [1,2,3,4,5,6,7,8] h.us fun x hx=>?_) Zd
  obtain ⟨n,hn,rfl⟩:=h.Ej.1 hx
  have:=V6.1 hn
  exact hm n this.1 this.2.1
 ·refine Rh (Mu uk T.Z8 ([(1:Int),2,3,4,5,6,7,8].flatMap fun p=>[(1:Int),2,3,4,5,6,7,8].map fun n=>(p,n)) h.uu fun x hx=>?_) Zd
  have:=Tj.1 (h.Jz.1 hx).1
  rw [List.mem_flatMap]
  exact ⟨x.peer,hm _ this.1 this.2.1,yG.2 ⟨x.source,hm _ this.2.2.1 this.2.2.2.1,rfl⟩⟩
theorem Xi.names {T:ZU} {R:Room} (h:Xi T R) (hI:Inv R):∀ x∈T.ZK,x.name.length<9223372036854775807:=fun x hx=>by
 obtain ⟨n,_,rfl⟩:=h.L3.1 hx
 exact Kt hI _
theorem F6:Xi ⟨[],[],[]⟩ empty:=by
 have hj:∀ p,Zz empty p=false:=fun p=>by rw [Ls,ne_eq,VF];rintro ⟨_,_,h⟩;exact h rfl
 have hs:∀ n,Wu empty n=false:=fun n=>by rw [Ls,ne_eq,V6];rintro ⟨_,_,h⟩;cases h
 have hh:∀ p n,ZH empty p n=false:=fun p n=>by rw [Ls,ne_eq,Tj];rintro ⟨_,_,_,_,h⟩;cases h
 exact ⟨List.nodup_nil,List.nodup_nil,List.nodup_nil,fun p=>by rw [hj];rfl,fun n=>by rw [hs];rfl,fun p n=>by rw [hh];rfl⟩
theorem xY (b:Nat) (T:ZU) (R:Room) (o:Op) (sv:Value) (sa ba:Option Addr) (sc bl bc:Nat) (w:World) (hR:ZT w b T) (hs:Xi T R) (hI:Inv R) (hT:Xe w) (Vz:o.name.length<9223372036854775807)
  (Z7:Yf w (.slice sa o.ZO.length sc) o.ZO.length (Zb o.ZO)) :
  Calls Tryz.prog 72 (Qf (some ⟨b,0,none⟩) (Ji o sa o.ZO.length sc ba bl bc)) w fun e w'=>
   (∃ v,e = .returned (.tuple #[v,.int .i64 (W9 R o sv).2])∧YM w' v (W9 R o sv).1.1)∧(∃ T',ZT w' b T'∧Xi T' (W9 R o sv).1.2)∧Fr w (· = b) w w':=by
 obtain ⟨h1,h2,h3⟩:=hs.W9 hI o sv
 refine (py b T o sa ba sc bl bc w hR hs.small hT Vz (hs.names hI) Z7 (fun h=>hs.ok hI h)).mono ?_
 rintro e w' ⟨⟨v,rfl,Z7⟩,VE,Xm⟩
 rw [h1] at Z7
 rw [h2]
 exact ⟨⟨v,rfl,Z7⟩,⟨_,VE,h3⟩,Xm⟩
theorem FW (b:Nat) (T:ZU) (R:Room) (p x:Int) (w:World) (hR:ZT w b T) (hs:Xi T R) (hI:Inv R) :
  Calls Tryz.prog 104 (Q8 (some ⟨b,0,none⟩) p x) w fun e w'=>
   (∃ v,e = .returned (.tuple #[v,.int .i64 (Y7 R p x).2])∧YM w' v (Y7 R p x).1.1)∧(∃ T',ZT w' b T'∧Xi T' (Y7 R p x).1.2)∧Fr w (· = b) w w':=by
 obtain ⟨h1,h2,h3⟩:=hs.Y7 hI p x
 refine (wh b T p x w hR hs.small).mono ?_
 rintro e w' ⟨⟨v,rfl,Z7⟩,VE,Xm⟩
 rw [h1] at Z7
 rw [h2]
 exact ⟨⟨v,rfl,Z7⟩,⟨_,VE,h3⟩,Xm⟩
end Go.Proofs.Rm
namespace Go.Proofs.By
open Go.Proofs.Rm (Room YE ZU WJ Xi Inv WZ opens Xy O5 rq Rl ZH Y7 W9 turns)
def Rb (n at':Int) (T:ZU) (ls:List XJ) (x:WJ):List XJ:=if 0≤T.Zx x.peer x.source then ls else XT n at' (fun k=>decide (k=(x.peer,x.source))) ls
def Sw (n at':Int) (T:ZU) (was:List WJ) (ls:List XJ):List XJ:=was.foldl (Rb n at' T) ls
theorem NS (n at':Int) (T:ZU):∀ (was:List WJ) (ls:List XJ),(Sw n at' T was ls).length=ls.length
 | [],_=>rfl
 | x :: was,ls=>by
  show (Sw n at' T was (Rb n at' T ls x)).length=_
  rw [NS]
  unfold Rb
  split
  ·rfl
  ·unfold XT;rw [UM]
theorem zA (n at':Int) (T:ZU) (was:List WJ) (x:WJ) (ls:List XJ):Sw n at' T (was++[x]) ls=Rb n at' T (Sw n at' T was ls) x:=by
 unfold Sw
 rw [List.foldl_append]
 rfl
theorem FV {n at':Int} (UO:at'≠n) (T:ZU):∀ (was:List WJ) (ls:List XJ),Sw n at' T was ls=XT n at' (fun k=>was.any fun x=>decide (T.Zx x.peer x.source<0) && decide (k=(x.peer,x.source))) ls
 | [],ls=>(Ud fun _ _ _=>rfl).symm
 | x :: was,ls=>by
  show Sw n at' T was (Rb n at' T ls x)=_
  rw [FV UO T was]
  unfold Rb
  by_cases h:0≤T.Zx x.peer x.source
  ·rw [ZX h]
   refine Sc fun z _ _=>?_
   rw [List.any_cons,WN Zo];rfl
  ·rw [Z6 h,Hs UO]
   refine Sc fun z _ _=>?_
   rw [List.any_cons,Ws (show T.Zx x.peer x.source<0 by omega)];rfl
theorem KY {n at':Int} (UO:at'≠n) {T T':ZU} {R R':Room} (h:Xi T R) (h':Xi T' R') (ls:List XJ):Sw n at' T' T.Z8 ls=XT n at' (fun k=>opens R k && !opens R' k) ls:=by
 rw [FV UO]
 refine Sc fun z _ _=>?_
 rw [Bool.eq_iff_iff,List.any_eq_true,Ui,Bool.not_eq_true']
 constructor
 ·rintro ⟨x,hx,hc⟩
  rw [Ui,NB,NB] at hc
  rw [hc.2]
  refine ⟨(h.Jz.1 hx).1,?_⟩
  show ZH R' x.peer x.source=false
  rw [Ls]
  intro hh
  have:=(h'.Zx x.peer x.source).2 hh
  omega
 ·rintro ⟨h1,h2⟩
  refine ⟨Rm.Vx R (Xd z).1 (Xd z).2,h.Jz.2 ⟨h1,rfl⟩,?_⟩
  rw [Ui,NB,NB]
  refine ⟨?_,rfl⟩
  show T'.Zx (Xd z).1 (Xd z).2<0
  have h3:¬0≤T'.Zx (Xd z).1 (Xd z).2:=fun hh=>by
   have:=(h'.Zx _ _).1 hh
   have h2:ZH R' (Xd z).1 (Xd z).2=false:=h2
   rw [this] at h2;cases h2
  omega
def UB (n at':Int) (T T':ZU) (ak:Int) (o:Rm.Op) (ls:List XJ):List XJ:=Sw n at' T' T.Z8 ls++if ak=2∧o.kind=6 then [⟨o.peer,o.source,at',n⟩] else []
theorem BP {n at':Int} (UO:at'≠n) {T T':ZU} {R:Room} (h:Xi T R) (h':Xi T' R) (ls:List XJ):Sw n at' T' T.Z8 ls=ls:=by
 rw [KY UO h h']
 refine Ud fun z _ _=>?_
 cases opens R (Xd z) <;> rfl
theorem zt {n at':Int} (UO:at'≠n) {R:Room} (hI:Inv R) (hs:WZ R) {T T':ZU} (h:Xi T R) (ep:Int) (o:Rm.Op) (b:List UInt8) (sv:Value) (h':Xi T' (take R ep o b sv).1.2) {ls:List XJ} (hl:LI n (opens R) ls) :
  Wk n at' ls (take R ep o b sv).1.1.turns=UB n at' T T' (take R ep o b sv).1.1.WH.kind o ls∧LI n (opens (take R ep o b sv).1.2) (Wk n at' ls (take R ep o b sv).1.1.turns):=by
 have still:∀ ak,Xi T' R→¬(ak=2∧o.kind=6)→Wk n at' ls []=UB n at' T T' ak o ls∧LI n (opens R) (Wk n at' ls []):=fun ak uy hk=>by
  unfold UB
  rw [BP UO h uy,Z6 hk,Df]
  exact ⟨rfl,hl⟩
 have ends:∀ ts R' ak,Xi T' R'→¬(ak=2∧o.kind=6)→Rm.Good (opens R) ts (opens R')→(∀ t∈ts,t.kind≠1)→Wk n at' ls ts=UB n at' T T' ak o ls∧LI n (opens R') (Wk n at' ls ts):=fun ts R' ak uy hk hg hb=>by
  obtain ⟨g1,g2⟩:=hg
  have h1:=Pm UO ts (opens R) ls hl g1 hb
  rw [g2] at h1
  unfold UB
  rw [KY UO h uy,Z6 hk,Df]
  exact h1
 by_cases k1:o.kind=1
 ·have e:take R ep o b sv=YZ R ep o.peer b:=by unfold take;rw [ZX k1]
  rw [e] at h' ⊢
  unfold YZ at h' ⊢
  have k6:∀ ak,¬(ak=(2:Int)∧o.kind=6):=fun ak hk=>by omega
  by_cases h1:(X0 b).2≠0
  ·rw [ZX h1] at h' ⊢;exact still _ h' (k6 _)
  rw [Z6 h1] at h' ⊢
  by_cases h2:(!Rm.Zz R o.peer)=true
  ·rw [ZX h2] at h' ⊢;exact still _ h' (k6 _)
  rw [Z6 h2] at h' ⊢
  cases hv:(X0 b).1 with
  | none=>rw [hv] at h';exact still _ h' (k6 _)
  | Ye p d=>
   rw [hv] at h'
   have e2:(VS R ep o.peer p d).turns=[]:=by unfold VS;split <;> rfl
   dsimp only at h' ⊢
   rw [e2]
   exact still _ h' (k6 _)
  | X6 l=>
   rw [hv] at h'
   have hfe:l=(Yy b).1:=by
    by_cases h3:192≤at8 b 1∧at8 b 1≤223
    ·have:=NY h3 Zo
     rw [this] at hv
     injection hv with hv
     exact hv.symm
    ·exact aG
   have VU:=(S3 b).1
   rw [←hfe] at VU
   have hg:=LU o.peer l R hI hs VU
   exact ends _ _ _ h' (k6 _) hg.1 hg.2
 ·have e:take R ep o b sv=if (W9 R o sv).2≠0 then ((Yt 6 (W9 R o sv).2,R),ep) else ((U7 (ep+1) [] (W9 R o sv).1.1 0,(W9 R o sv).1.2),ep+1):=by unfold take;rw [Z6 k1]
  rw [e] at h' ⊢
  by_cases h1:(W9 R o sv).2≠0
  ·rw [ZX h1] at h' ⊢
   exact still _ h' (fun hk=>absurd hk.1 (by show (6:Int)≠2;decide))
  rw [Z6 h1] at h' ⊢
  have hg:=Rm.rz hI o sv
  by_cases k6:o.kind=6
  ·have hd:W9 R o sv=(turns R o sv,0):=by
    unfold W9 at h1 ⊢
    split
    ·next hx=>rw [ZX hx] at h1;exact absurd hx (by simpa using h1)
    ·rfl
   have ht:turns R o sv=Rm.begin R o:=by
    unfold turns
    dsimp only
    rw [Z6 Zo,Z6 Zo,Z6 Zo,Z6 Zo,ZX k6]
   rw [hd,ht] at h' hg ⊢
   dsimp only [U7] at h' hg ⊢
   obtain ⟨g1,g2⟩:=hg
   obtain ⟨t2,ht2,Ay⟩:∃ t2:YE,(Rm.begin R o).1=[⟨1,o.peer,o.source,o.Zu,0⟩,t2]∧(t2.kind=6∨t2.kind=9):=by
    unfold Rm.begin
    dsimp only
    split
    ·exact ⟨_,rfl,Wc rfl⟩
    ·exact ⟨_,rfl,Wj rfl⟩
   rw [ht2] at g1 g2 ⊢
   have hS:opens R (o.peer,o.source)=false:=by
    have:=g1.1
    unfold rq at this
    rw [ZX rfl] at this
    have:=(Ui _ _ |>.mp this).2
    simpa [Rl] using this
   have e1:Wk n at' ls [⟨1,o.peer,o.source,o.Zu,0⟩,t2]=ls++[⟨o.peer,o.source,at',n⟩]:=by
    show Xc n at' (Xc n at' ls ⟨1,o.peer,o.source,o.Zu,0⟩) t2=_
    have a1:Xc n at' ls ⟨1,o.peer,o.source,o.Zu,0⟩=ls++[⟨o.peer,o.source,at',n⟩]:=rfl
    rw [a1]
    unfold Xc
    rw [Z6 Zo,Z6 Zo]
   have e2:opens (Rm.begin R o).2=fun x=>decide (x=(o.peer,o.source)) || opens R x:=by
    exact aI
   rw [e1]
   refine ⟨?_,by rw [e2];exact hl.begin o.peer o.source at' hS⟩
   unfold UB
   rw [KY UO h h',ZX ⟨rfl,k6⟩,e2,Ud]
   intro z _ _
   show (opens R (Xd z) && !(decide _ || opens R (Xd z)))=false
   cases opens R (Xd z) <;> simp
  ·have hb:∀ t∈(W9 R o sv).1.1,t.kind≠1:=by
    unfold W9
    split
    ·intro t ht;cases ht
    ·exact Cx R o sv k6
   exact ends _ _ _ h' (fun hk=>k6 hk.2) hg hb
open Go.Proofs.Rm (WB of Zz PM RA Ph S6 S4)
theorem C_ (R:Room) (p n:Nat):(Rm.waits R p n).length≤1:=by unfold Rm.waits;split <;> simp
theorem xS (R:Room) (n:Nat) (on:Bool):(Rm.mute R n on).1.length≤18:=by
 have h1:=S4 (R.Zt n {R.src n with ZE:=on}) n on (Rm.Z8 (R.Zt n {R.src n with ZE:=on}) n)
 have h2:=S6 (R.Zt n {R.src n with ZE:=on}) n
 show ((Rm.Z8 (R.Zt n {R.src n with ZE:=on}) n).flatMap _).length≤18
 omega
theorem tU (R:Room) (o:Rm.Op) (sv:Value):(turns R o sv).1.length≤200:=by
 unfold turns
 dsimp only
 by_cases k2:o.kind=2
 ·rw [ZX k2]
  exact TS _
 rw [Z6 k2]
 by_cases k3:o.kind=3
 ·rw [ZX k3]
  unfold Rm.leave
  dsimp only
  rw [SP]
  have h1:=RA o.peer.toNat R 9
  have h2:=Ph o.peer.toNat (Rm.ZP o.peer.toNat R 9).2 9
  omega
 rw [Z6 k3]
 by_cases k4:o.kind=4
 ·rw [ZX k4]
  exact TS _
 rw [Z6 k4]
 by_cases k5:o.kind=5
 ·rw [ZX k5]
  have:=PM R o.source.toNat;omega
 rw [Z6 k5]
 by_cases k6:o.kind=6
 ·rw [ZX k6]
  unfold Rm.begin
  dsimp only
  rw [List.length_cons]
  have:(if (R.src o.source.toNat).ZE=true then [(⟨6,o.peer,o.source,0,0⟩:YE)] else [Rm.asks (R.ZZ o.source.toNat o.peer.toNat ⟨true,false,o.Zu⟩) o.peer.toNat o.source.toNat]).length=1:=by split <;> rfl
  omega
 rw [Z6 k6]
 by_cases k7:o.kind=7
 ·rw [ZX k7]
  show 1≤200;decide
 rw [Z6 k7]
 by_cases k8:o.kind=8
 ·rw [ZX k8]
  have:=xS R o.source.toNat true;omega
 rw [Z6 k8]
 by_cases k9:o.kind=9
 ·rw [ZX k9]
  have:=xS R o.source.toNat false;omega
 rw [Z6 k9]
 by_cases k10:o.kind=10
 ·rw [ZX k10]
  show 1≤200;decide
 rw [Z6 k10]
 by_cases k11:o.kind=11
 ·rw [ZX k11]
  dsimp only
  rw [List.length_cons]
  exact Rh (Nat.succ_le_succ (C_ _ _ _)) Zd
 rw [Z6 k11]
 by_cases k12:o.kind=12
 ·rw [ZX k12]
  dsimp only
  rw [List.length_cons]
  exact Rh (Nat.succ_le_succ (C_ _ _ _)) Zd
 rw [Z6 k12]
 exact TS _
theorem J8 (peer:Int):∀ (l:List Int) (R:Room),(Zv peer l R).1.1.length≤18*l.length
 | [],R=>ZB _
 | x :: l,R=>by
  have ih:=J8 peer l (Y7 R peer x).1.2
  have h1:=ML R peer x
  unfold Zv
  show ((Y7 R peer x).1.1++_).length≤_
  rw [SP,List.length_cons]
  omega
theorem zk (R:Room) (peer:Int) {i:R6} (hi:TP i):(Yr R peer i).1.1.length≤3000:=by
 unfold Yr
 split
 ·exact TS _
 split
 ·exact TS _
 split
 ·have:=J8 peer i.gone R
  have hg:=hi.g
  omega
 ·exact TS _
theorem Kk (peer:Int):∀ (l:List R6) (R:Room),(∀ i∈l,TP i)→(ZG peer l R).1.1.length≤3000*l.length
 | [],R,hi=>ZB _
 | x :: l,R,hi=>by
  have h1:=zk R peer (hi x (List.mem_cons_self ..))
  have ih:=Kk peer l (Yr R peer x).1.2 (fun i h=>hi i (List.mem_cons_of_mem _ h))
  unfold ZG
  show ((Yr R peer x).1.1++_).length≤_
  rw [SP,List.length_cons]
  omega
theorem DZ (R:Room) (ep p:Int) (l:List UInt8):(YZ R ep p l).1.1.turns.length≤24000:=by
 unfold YZ
 by_cases h1:(X0 l).2≠0
 ·rw [ZX h1];exact TS _
 rw [Z6 h1]
 by_cases h2:(!Zz R p)=true
 ·rw [ZX h2];exact TS _
 rw [Z6 h2]
 by_cases h3:192≤at8 l 1∧at8 l 1≤223
 ·rw [NY h3 Zo]
  have hk:=S3 l
  have:=Kk p (Yy l).1 R hk.1
  show (ZG p (Yy l).1 R).1.1.length≤24000
  omega
 ·obtain ⟨P,d,hp⟩:=M5 h3 Zo
  rw [hp]
  dsimp only
  unfold VS
  split <;> exact TS _
theorem tR (R:Room) (ep:Int) (o:Rm.Op) (l:List UInt8) (sv:Value):(take R ep o l sv).1.1.turns.length≤24000:=by
 unfold take
 split
 ·exact DZ _ _ _ _
 split
 ·exact TS _
 ·rename_i h
  show (W9 R o sv).1.1.length≤24000
  unfold W9
  split
  ·exact TS _
  ·have:=tU R o sv
   exact Rh this Zd
theorem Ky (L:List QM) (k:Nat):(YH L k).turns.length≤24000:=by
 unfold YH
 split
 ·exact TS _
 ·exact tR _ _ _ _ _
theorem Kr (L:List QM) (n:Int):∀ k,(S_ L n k).length≤24000*k
 | 0=>ZB _
 | k+1=>by
  have ih:=Kr L n k
  have h1:=Kq n k (YH L k).turns (S_ L n k)
  have h2:=Ky L k
  show (Wk n k (S_ L n k) (YH L k).turns).length≤_
  omega
end Go.Proofs.By
namespace Go.Proofs.By
open Go.RowKit Go.Proofs.Heap
open Go.Proofs.Rm (ZU Xi Inv Room of Wu ZH V6)
theorem FZ {T:ZU} {R:Room} (h:Xi T R) (hI:Inv R) (p x:Int):((T.of x).2.2=true∧T.owner (T.of x).1=p)↔owned R p x=true:=by
 rw [h.of_eq hI]
 unfold owned
 rw [Ui,NB]
 refine and_congr_right fun ho=>?_
 obtain ⟨m,hm,ht,_,he⟩:=Rm.Ra ho
 have hn:=hI.Zq m ht
 rw [he]
 show T.owner (m:Int)=p↔(R.src ((m:Int)).toNat).own=p
 rw [h.owner,ZX (V6.2 ⟨Zo,Zo,by simpa using ht⟩)]
theorem wu {T:ZU} {R:Room} (h:Xi T R) (p x:Int):((VL x).2.2=true∧(VL x).1=p∧0≤T.Zx (VL x).1 (VL x).2.1)↔Ve R p x=true:=by
 unfold Ve
 rw [Ui,Ui,NB,and_assoc]
 refine and_congr_right fun _=>and_congr_right fun e=>?_
 rw [h.Zx,e]
open Go.Proofs.Rm (YE WJ WZ opens)
def Ev.kd:Ev→Int | .none=>0 | .Ye _ _=>1 | .X6 _=>2
def Ev.pk:Ev→J2 | .none=>Xp | .Ye p _=>p | .X6 _=>Xp
def Ev.ds:Ev→AJ | .none=>Ue | .Ye _ d=>d | .X6 _=>Ue
def Ev.il:Ev→List R6 | .none=>[] | .Ye _ _=>[] | .X6 l=>l
def vp (o:Rm.Op) (b:List UInt8):Ev:=if o.kind=1 then (X0 b).1 else .none
def nO (L:List QM) (k:Nat):Ev:=match L[k]? with
 | some y=>vp y.x.o y.b
 | none=> .none
def Bg (L:List QM) (k:Nat):List Ev:=(List.range k).map (nO L)
theorem yP (L:List QM) (k:Nat):Bg L (k+1)=Bg L k++[nO L k]:=by unfold Bg;rw [Aq,ND];rfl
def Xr (L:List QM):Nat→UX
 | 0=>M0
 | k+1=>(Xr L k).add (YH L k).WH.kind (YH L k).unknown
end Go.Proofs.By
