import Derived.Test.YtpdjhlcbcomdkaaGreatDoorChecked
import Derived.Test.YtpdjhlcbcomdkaaGreatDoorS01
import Derived.Test.YtpdjhlcbcomdkaaGreatDoorS0Y
set_option linter.all false
set_option maxRecDepth 100000
set_option maxHeartbeats 16000000
open Go Go.Q Go.Proofs.Tryz Go.RowKit
namespace Go.Proofs.By
structure Ok(R:Room)(o:Op):Prop where
 kind:2≤o.kind∧o.kind≤12
 peer:1≤o.peer∧o.peer<9
 join:o.kind=2→LX R o=0
 there:o.kind≠2→Y5 R o.peer=true
 src:4≤o.kind→1≤o.source∧o.source<9
 Bb:o.kind=4→VE R o=0
 is:5≤o.kind→(R.src o.source.toNat).there=true
 abt:5≤o.kind→about R o=0
def XI(n k:Int):Vv n k=true↔1≤n∧n<k:=by unfold Vv;simp
def O4{R:Room}{o:Op}(h:XQ R o=0):Ok R o:=by
 unfold XQ at h;by_cases h1:o.kind<2∨12<o.kind
 ·rw[ZU h1]at h;exact absurd h Zd
 rw[Z3 h1]at h;by_cases h2:Vv o.peer 9=true
 rotate_left
 ·simp[h2]at h
 simp only[h2,Bool.not_true,Bool.false_eq_true,if_false]at h;have hp:=(XI _ _).1 h2;by_cases h3:o.kind=2
 ·rw[ZU h3]at h;exact⟨Zo,hp,fun _=>h,fun e=>absurd h3 e,Zo,Zo,Zo,Zo⟩
 rw[Z3 h3]at h;by_cases h4:Y5 R o.peer=true
 rotate_left
 ·simp[h4]at h
 simp only[h4,Bool.not_true,Bool.false_eq_true,if_false]at h;by_cases h5:o.kind=3
 ·exact⟨Zo,hp,Zo,fun _=>h4,Zo,Zo,Zo,Zo⟩
 rw[Z3 h5]at h;by_cases h6:Vv o.source 9=true
 rotate_left
 ·simp[h6]at h
 simp only[h6,Bool.not_true,Bool.false_eq_true,if_false]at h;have hs:=(XI _ _).1 h6;by_cases h7:o.kind=4
 ·rw[ZU h7]at h;exact⟨Zo,hp,Zo,fun _=>h4,fun _=>hs,fun _=>h,Zo,Zo⟩
 rw[Z3 h7]at h;by_cases h8:(R.src o.source.toNat).there=true
 rotate_left
 ·simp[h8]at h
 simp only[h8,Bool.not_true,Bool.false_eq_true,if_false]at h;exact⟨Zo,hp,Zo,fun _=>h4,fun _=>hs,Zo,fun _=>h8,fun _=>h⟩
def OD{R:Room}{o:Op}(h:ZC R o=0):0≤o.ZC∧o.ZC<(R.src o.source.toNat).ss.length:=by
 unfold ZC at h;by_cases h1:o.ZC<0∨((R.src o.source.toNat).ss.length:Int)≤o.ZC
 ·rw[ZU h1]at h;exact absurd h Zd
 ·omega
def Oe{R:Room}{o:Op}(h:about R o=0)(hk:o.kind=6):(R.src o.source.toNat).own≠o.peer∧(R.sub o.source.toNat o.peer.toNat).there=false∧ZC R o=0:=by
 unfold about at h;dsimp only at h;rw[Z3 Zo,ZU hk]at h;by_cases h1:(R.src o.source.toNat).own=o.peer
 ·rw[ZU h1]at h;exact absurd h Zd
 rw[Z3 h1]at h;cases ht:(R.sub o.source.toNat o.peer.toNat).there
 ·rw[ht]at h;exact⟨h1,rfl,h⟩
 ·rw[ht]at h;simp at h
def Tf{R:Room}{o:Op}(h:about R o=0)(hk:o.kind=7∨10≤o.kind) :
  (R.sub o.source.toNat o.peer.toNat).there=true∧(o.kind=10→(R.sub o.source.toNat o.peer.toNat).ZV=false)∧(o.kind=11→(R.sub o.source.toNat o.peer.toNat).ZV=true)∧(o.kind=12→ZC R o=0∧(R.sub o.source.toNat o.peer.toNat).want≠o.ZC):=by
 unfold about at h;dsimp only at h;rw[Z3 Zo,Z3 Zo]at h;unfold heard at h;dsimp only at h;cases ht:(R.sub o.source.toNat o.peer.toNat).there
 ·rw[ht]at h;simp at h
 rw[ht]at h;simp only[Bool.not_true,Bool.false_eq_true,if_false]at h;refine⟨rfl,?_,?_,?_⟩
 ·intro GC;cases hm:(R.sub o.source.toNat o.peer.toNat).ZV
  ·rfl
  ·rw[ZU ⟨GC,hm⟩]at h;exact absurd h Zd
 ·intro h11;rw[Z3 Zo]at h;cases hm:(R.sub o.source.toNat o.peer.toNat).ZV
  ·rw[ZU ⟨h11,hm⟩]at h;exact absurd h Zd
  ·rfl
 ·intro h12;rw[Z3 Zo,Z3 Zo,Z3 Zo]at h;by_cases hl:ZC R o=0
  ·rw[Z3 Zo]at h;refine⟨hl,fun e=>?_⟩;rw[ZU e]at h;exact absurd h Zd
  ·rw[ZU hl]at h;exact absurd h hl
def IW(l:List Int)(x:Int):0≤index l x↔x∈l:=by
 unfold index;cases h:l.findIdx? (fun y=>y==x)with
 | none=>
  have:=List.findIdx?_eq_none_iff.1 h;constructor
  ·intro h;exact absurd h Zd
  ·intro hx;have:=this x hx;simp at this
 | some i=>
  obtain⟨hi,h1,_⟩:=List.findIdx?_eq_some_iff_getElem.1 h;have h1:l[i]=x:=by simpa using h1
  exact⟨fun _=>by rw[←h1];exact O6 hi,fun _=>oK _⟩
def De(R:Room)(x:Int):∀k n,(Ro R x k n).2.2=false↔∀m,n≤m→m<n+k→(R.src m).there=true→x ∉ (R.src m).ss
 | 0,n=>by simp[Ro];omega
 | k+1,n=>by
  unfold Ro;by_cases hc:((R.src n).there&&decide (0≤index (R.src n).ss x))=true
  ·rw[ZU hc];rw[UN,Su,IW]at hc;constructor
   ·intro h;cases h
   ·intro h;exact absurd hc.2 (h n (Zq _) Zo hc.1)
  ·rw[Z3 hc,De R x k (n+1)];rw[UN,Su,IW]at hc;constructor
   ·intro h m h1 h2 h3 h4;by_cases e:m=n
    ·subst e;exact hc ⟨h3,h4⟩
    ·exact h m Zo Zo h3 h4
   ·intro h m h1 h2;exact h m Zo Zo
def se{R:Room}{x:Int}:(of R x).2.2=false↔∀m,m<9→(R.src m).there=true→x ∉ (R.src m).ss:=by
 unfold of;rw[De];exact⟨fun h m hm=>h m (Tv _) Zo,fun h m _ hm=>h m Zo⟩
def Df(R:Room)(x:Int):∀k n,(Ro R x k n).2.2=true→∃m:Nat,n≤m∧m<n+k∧(R.src m).there=true∧x∈(R.src m).ss∧Ro R x k n=((m:Int),index (R.src m).ss x,true)
 | 0,n,h=>by simp[Ro]at h
 | k+1,n,h=>by
  unfold Ro at h ⊢;by_cases hc:((R.src n).there&&decide (0≤index (R.src n).ss x))=true
  ·rw[ZU hc]at h ⊢;rw[UN,Su,IW]at hc;exact⟨n,Zq _,Zo,hc.1,hc.2,rfl⟩
  ·rw[Z3 hc]at h ⊢;obtain⟨m,h1,h2,h3⟩:=Df R x k (n+1) h;exact⟨m,Zo,Zo,h3⟩
def Pr{R:Room}{x:Int}(h:(of R x).2.2=true):∃m:Nat,m<9∧(R.src m).there=true∧x∈(R.src m).ss∧of R x=((m:Int),index (R.src m).ss x,true):=by
 obtain⟨m,_,h2,h3⟩:=Df R x 9 0 h;exact⟨m,Zo,h3⟩
def FP(l:List Int)(h:∀i,i<l.length→(l.take i).contains (l.getD i 0)=false):l.Nodup:=by
 unfold List.Nodup;rw[List.pairwise_iff_getElem];intro i j hi hj hij e;have:=h j hj;rw[QQ,U' hj,Option.getD_some]at this;rw[←e]at this
 have hm:l[i]∈l.take j:=by
  rw[List.mem_iff_getElem];exact⟨i,by rw[SC];omega,by rw[List.getElem_take]⟩
 rw[List.contains_iff_mem.2 hm]at this;cases this
def F3{R:Room}{o:Op}(h:VE R o=0):1≤o.ZG.length∧o.ZG.length≤3∧(∀s∈o.ZG,2≤s∧s<3221225472)∧(R.src o.source.toNat).there=false∧o.ZG.Nodup∧∀m x,m<9→(R.src m).there=true→x∈o.ZG→x ∉ (R.src m).ss:=by
 unfold VE at h;by_cases h1:o.ZG.length<1∨3<o.ZG.length
 ·rw[ZU h1]at h;exact absurd h Zd
 rw[Z3 h1]at h;by_cases h2:o.ZG.any (fun s=>decide (s<2)||decide (3221225472≤s))=true
 ·rw[ZU h2]at h;exact absurd h Zd
 rw[Z3 h2]at h;by_cases h3:(R.src o.source.toNat).there=true
 ·rw[ZU h3]at h;exact absurd h Zd
 rw[Z3 h3]at h;by_cases h4:(List.range o.ZG.length).any (Vl R o.ZG)=true
 ·rw[ZU h4]at h;exact absurd h Zd
 have h5:∀i,i<o.ZG.length→(of R (o.ZG.getD i 0)).2.2=false∧(o.ZG.take i).contains (o.ZG.getD i 0)=false:=by
  intro i hi;have:¬Vl R o.ZG i=true:=fun e=>h4 (List.any_eq_true.2 ⟨i,by simpa using hi,e⟩)
  unfold Vl at this;rw[Bool.or_eq_true]at this;exact⟨JU.2 fun e=>this (WQ e),JU.2 fun e=>this (WG e)⟩
 refine⟨Zo,Zo,?_,by simpa using h3,FP _ fun i hi=>(h5 i hi).2,?_⟩
 ·intro s hs;have:¬(decide (s<2)||decide (3221225472≤s))=true:=fun e=>h2 (List.any_eq_true.2 ⟨s,hs,e⟩)
  simp at this;omega
 ·intro m x hm ht hx;obtain⟨i,hi,rfl⟩:=List.getElem_of_mem hx;have:=(h5 i hi).1;rw[QQ,U' hi,Option.getD_some,se]at this;exact this m hm ht
def rW{R:Room}{o:Op}(h:LX R o=0):Y5 R o.peer=false∧may o.name=true∧∀q,q<9→R.names q≠[]→key (R.names q)≠key o.name:=by
 unfold LX at h;cases h1:Y5 R o.peer
 rotate_left
 ·rw[h1]at h;simp at h
 rw[h1]at h;cases h2:may o.name
 ·rw[h2]at h;simp at h
 rw[h2]at h;simp only[Bool.false_eq_true,if_false,Bool.not_true]at h;by_cases h3:(List.range 9).any (sameKey R o)=true
 ·rw[ZU h3]at h;exact absurd h Zd
 refine⟨rfl,rfl,fun q hq hn e=>h3 (List.any_eq_true.2 ⟨q,by simpa using hq,?_⟩)⟩;unfold sameKey;simp[hn,e]
def lR{l:List UInt8}(h:may l=true):l≠[]:=by rintro rfl;cases h
def S8:Inv empty:=by
 refine⟨⟨rfl,rfl⟩,?_,?_,?_,?_,?_⟩
 ·intro n p h;cases h
 ·intro n h;cases h
 ·intro n m x h;cases h
 ·intro p h;exact absurd rfl h
 ·intro p q h;exact absurd rfl h
def lI{R:Room}(hI:Inv R){p:Nat}{nm:List UInt8}(hp:1≤p∧p<9)(h0:R.names p=[])(hm:may nm=true)(hk:∀q,q<9→R.names q≠[]→key (R.names q)≠key nm):Inv (R.setName p nm):=by
 have hjoin:∀q,Y5 R q=true→Y5 (R.setName p nm) q=true:=by
  intro q h;unfold Y5 at h ⊢;rw[UN]at h ⊢;refine⟨h.1,?_⟩;rw[XW];split
  ·have:=lR hm;simp[this]
  ·exact h.2
 refine⟨⟨?_,hI.P7.2⟩,?_,?_,hI.apart,?_,?_⟩
 ·rw[XW,Z3 Zo];exact hI.P7.1
 ·intro n q h;have:=hI.YZ n q h;have hq:q≠p:=by rintro rfl;exact this.2.2.2.2.2.1 h0
  rw[XW,Z3 hq];exact this
 ·intro n h;obtain⟨h1,h2,h3,h4,h5⟩:=hI.YL n h;exact⟨h1,h2,h3,hjoin _ h4,h5⟩
 ·intro q h;rw[XW]at h ⊢;by_cases hq:q=p
  ·rw[ZU hq];exact⟨Zo,hm⟩
  ·rw[Z3 hq]at h ⊢;exact hI.nameAt q h
 ·intro q r h e;rw[XW]at h;rw[XW,XW]at e;by_cases hq:q=p
  ·rw[ZU hq]at e;by_cases hr:r=p
   ·omega
   ·rw[Z3 hr]at e;by_cases hn:R.names r=[]
    ·rw[hn]at e;exact absurd e (FH hm)
    ·exact absurd e.symm (hk r (hI.nameAt r hn).1 hn)
  ·rw[Z3 hq]at h e;by_cases hr:r=p
   ·rw[ZU hr]at e;exact absurd e (hk q (hI.nameAt q h).1 h)
   ·rw[Z3 hr]at e;exact hI.keys q r h e
def yj{R:Room}(hI:Inv R){n p:Nat}{sv:Value}{ss:List Int}(hn:1≤n∧n<9)(hp:Y5 R p=true)(h0:(R.src n).there=false)(h1:1≤ss.length)(h3:ss.length≤3)(hr:∀s∈ss,2≤s∧s<3221225472)(hd:ss.Nodup)(hx:∀m x,m<9→(R.src m).there=true→x∈ss→x ∉ (R.src m).ss) :
  Inv (R.YW n ⟨true,n,p,sv,ss,false⟩):=by
 refine⟨⟨hI.P7.1,?_⟩,?_,?_,?_,hI.nameAt,hI.keys⟩
 ·rw[Wf,Z3 Zo];exact hI.P7.2
 ·intro m q h;have:=hI.YZ m q h;have hm:m≠n:=by rintro rfl;rw[h0]at this;exact absurd this.2.2.2.2.1 Zd
  rw[Wf,Z3 hm];exact this
 ·intro m h;rw[Wf]at h ⊢;by_cases hm:m=n
  ·rw[ZU hm];exact⟨Zo,Zo,by rw[hm],hp,h1,h3,hd,hr⟩
  ·rw[Z3 hm]at h ⊢;exact hI.YL m h
 ·intro m k x a b c d;rw[Wf]at a b c d;by_cases hm:m=n
  ·by_cases hk:k=n
   ·omega
   ·rw[Z3 hk]at b d;rw[ZU hm]at c;exact absurd d (hx k x (hI.YL k b).2.1 b c)
  ·rw[Z3 hm]at a c;by_cases hk:k=n
   ·rw[ZU hk]at d;exact absurd c (hx m x (hI.YL m a).2.1 a d)
   ·rw[Z3 hk]at b d;exact hI.apart m k x a b c d
def GK{R:Room}(hI:Inv R){n p:Nat}{x:Sub}(h:x.there=true→1≤n∧n<9∧1≤p∧p<9∧(R.src n).there=true∧R.names p≠[]∧(R.src n).own≠p∧0≤x.want∧x.want<(R.src n).ss.length):Inv (R.ZO n p x):=by
 refine⟨hI.P7,?_,hI.YL,hI.apart,hI.nameAt,hI.keys⟩;intro m q ht;rw[Vy]at ht ⊢;by_cases h1:m=n∧q=p
 ·rw[ZU h1]at ht ⊢;rw[h1.1,h1.2];exact h ht
 ·rw[Z3 h1]at ht ⊢;exact hI.YZ m q ht
def Cs{R:Room}(hI:Inv R)(n:Nat)(on:Bool):Inv (R.YW n {R.src n with ZJ:=on}):=by
 have key:∀m,((R.YW n {R.src n with ZJ:=on}).src m).there=(R.src m).there∧((R.YW n {R.src n with ZJ:=on}).src m).ss=(R.src m).ss∧((R.YW n {R.src n with ZJ:=on}).src m).own=(R.src m).own∧((R.YW n {R.src n with ZJ:=on}).src m).num=(R.src m).num:=by
  intro m;rw[Wf];split
  ·rename_i h;subst h;exact⟨rfl,rfl,rfl,rfl⟩
  ·exact⟨rfl,rfl,rfl,rfl⟩
 refine⟨⟨hI.P7.1,?_⟩,?_,?_,?_,hI.nameAt,hI.keys⟩
 ·rw[(key 0).1];exact hI.P7.2
 ·intro m q h;rw[(key m).1,(key m).2.1,(key m).2.2.1];exact hI.YZ m q h
 ·intro m h;rw[(key m).1]at h;rw[(key m).2.1,(key m).2.2.1,(key m).2.2.2];exact hI.YL m h
 ·intro m k x a b c d;rw[(key m).1]at a;rw[(key k).1]at b;rw[(key m).2.1]at c;rw[(key k).2.1]at d;exact hI.apart m k x a b c d
def pT{R:Room}{o:Op}(hI:Inv R)(ok:Ok R o)(sv:Value):Inv (turns R o sv).2:=by
 obtain⟨kd,p,n,q,nm,ss⟩:=o;obtain⟨hk,hp,hj,ht,hs,ue,fI,Lr⟩:=ok;dsimp only at *;obtain⟨p,rfl⟩:=RV (show 0≤p by omega);by_cases k2:kd=2
 ·subst k2;obtain⟨h1,h2,h3⟩:=rW (hj rfl);show Inv (R.setName p nm);refine lI hI (p:=p) Zo ?_ h2 h3;rw[JU,ne_eq,FE]at h1;exact Classical.not_not.1 fun e=>h1 ⟨Zo,Zo,e⟩
 have hjp:=FE.1 (ht k2);by_cases k3:kd=3
 ·subst k3;show Inv (leave R p).2;exact pS hI p
 obtain⟨n,rfl⟩:=RV (show 0≤n by have:=hs Zo;omega);have hn:=hs Zo;by_cases k4:kd=4
 ·subst k4;obtain⟨h1,h2,h3,h4,h5,h6⟩:=F3 (ue rfl);show Inv (R.YW n ⟨true,n,p,sv,ss,false⟩);exact yj hI Zo (ht k2) h4 h1 h2 h3 h5 h6
 have fI:=fI Zo;have his':(R.src n).there=true:=by rw[Wi]at fI;exact fI
 have Lr:=Lr Zo;have Rz:(R.sub n p).there=true→1≤n∧n<9∧1≤p∧p<9∧(R.src n).there=true∧R.names p≠[]∧(R.src n).own≠p∧0≤(R.sub n p).want∧(R.sub n p).want<(R.src n).ss.length:=hI.YZ n p;by_cases k5:kd=5
 ·subst k5;show Inv (gone R n).2;exact Fz hI n
 by_cases k6:kd=6
 ·subst k6;obtain⟨h1,h2,h3⟩:=Oe Lr rfl;have h4:=OD h3;show Inv (R.ZO n p ⟨true,false,q⟩);exact GK hI fun _=>⟨Zo,Zo,Zo,Zo,his',hjp.2.2,h1,h4.1,h4.2⟩
 by_cases k7:kd=7
 ·subst k7;show Inv (R.ZO n p UW);exact rV hI n p
 by_cases k8:kd=8
 ·subst k8;show Inv (R.YW n {R.src n with ZJ:=true});exact Cs hI n true
 by_cases k9:kd=9
 ·subst k9;show Inv (R.YW n {R.src n with ZJ:=false});exact Cs hI n false
 obtain⟨h1,_,_,h4⟩:=Tf Lr (by right;show 10≤kd;omega);have hb:=Rz h1;by_cases k10:kd=10
 ·subst k10;show Inv (R.ZO n p {R.sub n p with ZV:=true});exact GK hI fun _=>hb
 by_cases k11:kd=11
 ·subst k11;show Inv (R.ZO n p {R.sub n p with ZV:=false});exact GK hI fun _=>hb
 have k12:kd=12:=by omega
 subst k12;have h5:=OD (h4 rfl).1;show Inv (R.ZO n p {R.sub n p with want:=q});exact GK hI fun _=>⟨hb.1,hb.2.1,hb.2.2.1,hb.2.2.2.1,hb.2.2.2.2.1,hb.2.2.2.2.2.1,hb.2.2.2.2.2.2.1,h5.1,h5.2⟩
def A1{R:Room}(hI:Inv R)(o:Op)(sv:Value):Inv (Wq R o sv).1.2:=by
 unfold Wq;by_cases h:XQ R o=0
 ·rw[Z3 (by simpa using h)];exact pT hI (O4 h) sv
 ·rw[ZU h];exact hI
def Lv{R:Room}(hI:Inv R)(p x:Int):Inv (YM R p x).1.2:=by
 unfold YM;split
 ·exact hI
 ·exact Fz hI _
def Src.bare(s:Src):Src:={s with sv:= .slice none 0 0}
def Room.bare(R:Room):Room:=⟨R.names,fun n=>(R.src n).bare,R.sub⟩
def Dd(R:Room)(x:Int):∀k n,Ro R.bare x k n=Ro R x k n
 | 0,_=>rfl
 | k+1,n=>by
  show(if(R.src n).there&&decide (0≤index (R.src n).ss x)then((n:Int),index (R.src n).ss x,true)else Ro R.bare x k (n+1))=_;rw[Dd R x k (n+1)];rfl
def Kt(R:Room)(x:Int):of R.bare x=of R x:=Dd R x 9 0
def vC(R:Room)(l:List Int):Vl R.bare l=Vl R l:=by
 funext i;unfold Vl;rw[Kt]
def F4(R:Room)(o:Op):VE R.bare o=VE R o:=by
 unfold VE;rw[vC];rfl
def vF(R:Room)(o:Op):XQ R.bare o=XQ R o:=by
 unfold XQ;rw[F4];rfl
def Pk(R:Room)(n:Nat)(x:Src):(R.YW n x).bare=R.bare.YW n x.bare:=by
 unfold Room.YW Room.bare
 congr 1
 funext m;dsimp only;split <;> rfl
def Ht(n:Nat):∀l R,Xe n l R.bare=((Xe n l R).1,(Xe n l R).2.bare)
 | [],R=>rfl
 | p :: l,R=>by
  have ih:=Ht n l (R.ZO n p UW);show((⟨3,p,n,0,0⟩:Yz) :: ⟨2,p,n,0,0⟩ :: (Xe n l (R.ZO n p UW).bare).1,(Xe n l (R.ZO n p UW).bare).2)=_;rw[ih];rfl
def Mj(R:Room)(n:Nat):gone R.bare n=((gone R n).1,(gone R n).2.bare):=by
 unfold gone;dsimp only;rw[show ZX R.bare n=ZX R n from rfl,Ht,Pk];rfl
def Ig(p:Nat)(R:Room):∀k,ZH p R.bare k=((ZH p R k).1,(ZH p R k).2.bare)
 | 0=>rfl
 | k+1=>by
  have ih:=Ig p R k;unfold ZH;dsimp only;rw[ih];dsimp only;show(if((ZH p R k).2.sub k p).there=true then _ else _)=_;split <;> rfl
def Ii(R:Room)(p:Nat):∀k,ZB R.bare p k=((ZB R p k).1,(ZB R p k).2.bare)
 | 0=>rfl
 | k+1=>by
  have ih:=Ii R p k;unfold ZB;dsimp only;rw[ih];dsimp only;rw[Mj];show(if((R.src k).there&&decide ((R.src k).own=p))=true then _ else _)=_;split <;> rfl
def uq(R:Room)(p:Nat):leave R.bare p=((leave R p).1,(leave R p).2.bare):=by
 unfold leave;rw[Ig,Ii];rfl
def tF(R:Room)(o:Op):begin R.bare o=((begin R o).1,(begin R o).2.bare):=rfl
def C_(R:Room)(n:Nat)(on:Bool):mute R.bare n on=((mute R n on).1,(mute R n on).2.bare):=by
 have h:R.bare.YW n {R.bare.src n with ZJ:=on}=(R.YW n {R.src n with ZJ:=on}).bare:=by rw[Pk];rfl
 unfold mute;dsimp only;rw[h];rfl
def vw(R:Room)(o:Op)(sv zM:Value):(turns R.bare o zM).1=(turns R o sv).1∧(turns R.bare o zM).2.bare=(turns R o sv).2.bare:=by
 have bb:∀Q:Room,Q.bare.bare=Q.bare:=fun _=>rfl
 unfold turns;dsimp only;by_cases k2:o.kind=2
 ·rw[ZU k2,ZU k2];exact⟨rfl,rfl⟩
 rw[Z3 k2,Z3 k2];by_cases k3:o.kind=3
 ·rw[ZU k3,ZU k3,uq];exact⟨rfl,rfl⟩
 rw[Z3 k3,Z3 k3];by_cases k4:o.kind=4
 ·rw[ZU k4,ZU k4];exact⟨rfl,by rw[Pk,Pk];rfl⟩
 rw[Z3 k4,Z3 k4];by_cases k5:o.kind=5
 ·rw[ZU k5,ZU k5,Mj];exact⟨rfl,rfl⟩
 rw[Z3 k5,Z3 k5];by_cases k6:o.kind=6
 ·rw[ZU k6,ZU k6,tF];exact⟨rfl,rfl⟩
 rw[Z3 k6,Z3 k6];by_cases k7:o.kind=7
 ·rw[ZU k7,ZU k7];exact⟨rfl,rfl⟩
 rw[Z3 k7,Z3 k7];by_cases k8:o.kind=8
 ·rw[ZU k8,ZU k8,C_];exact⟨rfl,rfl⟩
 rw[Z3 k8,Z3 k8];by_cases k9:o.kind=9
 ·rw[ZU k9,ZU k9,C_];exact⟨rfl,rfl⟩
 rw[Z3 k9,Z3 k9];by_cases k10:o.kind=10
 ·rw[ZU k10,ZU k10];exact⟨rfl,rfl⟩
 rw[Z3 k10,Z3 k10];by_cases k11:o.kind=11
 ·rw[ZU k11,ZU k11];exact⟨rfl,rfl⟩
 rw[Z3 k11,Z3 k11];by_cases k12:o.kind=12
 ·rw[ZU k12,ZU k12];exact⟨rfl,rfl⟩
 rw[Z3 k12,Z3 k12];exact⟨rfl,rfl⟩
def xI(R:Room)(o:Op)(sv zM:Value):(Wq R.bare o zM).1.1=(Wq R o sv).1.1∧(Wq R.bare o zM).2=(Wq R o sv).2∧(Wq R.bare o zM).1.2.bare=(Wq R o sv).1.2.bare:=by
 unfold Wq;rw[vF];by_cases h:XQ R o=0
 ·rw[Z3 (by simpa using h),Z3 (by simpa using h)];obtain⟨h1,h2⟩:=vw R o sv zM;exact⟨h1,rfl,h2⟩
 ·rw[ZU h,ZU h];exact⟨rfl,rfl,rfl⟩
structure Fr(B:Nat)(S:Nat→Prop)(w w':World):Prop where
 os:w'.os=w.os
 tape:w'.tape=w.tape
 output:w'.output=w.output
 size:w.heap.size≤w'.heap.size
 block:∀k,k<B→¬S k→w'.heap[k]?=w.heap[k]?
def Pj:Nat→Prop:=fun _=>False
def Fr.Z8{B:Nat}{w w':World}(S:Nat→Prop)(h:Below B w w'):Fr B S w w':=⟨h.os,h.tape,h.output,h.size,fun k hk _=>h.block k hk⟩
def Fr.below{B:Nat}{w w':World}(h:Fr B Pj w w'):Below B w w':=⟨h.os,h.tape,h.output,h.size,fun k hk=>h.block k hk (fun x=>x)⟩
def Fr.refl(B:Nat)(S:Nat→Prop)(w:World):Fr B S w w:=⟨rfl,rfl,rfl,Zq _,fun _ _ _=>rfl⟩
def Fr.trans{B:Nat}{S:Nat→Prop}{a b c:World}(h:Fr B S a b)(k:Fr B S b c):Fr B S a c:=
 ⟨k.os.trans h.os,k.tape.trans h.tape,k.output.trans h.output,PJ h.size k.size,fun i hi hs=>(k.block i hi hs).trans (h.block i hi hs)⟩
def Fr.mono{B B':Nat}{S S':Nat→Prop}{w w':World}(h:Fr B S w w')(hB:B'≤B)(hS:∀k,k<B'→S k→S' k):Fr B' S' w w':=
 ⟨h.os,h.tape,h.output,h.size,fun k hk hs=>h.block k (Od hk hB) (fun x=>hs (hS k hk x))⟩
def Fr.drew{B:Nat}{S:Nat→Prop}{a w:World}(h:Fr B S a w):Fr B S a w.drew:=⟨h.os,h.tape,h.output,h.size,h.block⟩
def Fr.alloc{B:Nat}{S:Nat→Prop}{a w:World}(h:Fr B S a w)(hB:B≤w.heap.size)(o:Obj):Fr B S a (w.alloc o):=
 h.trans ⟨rfl,rfl,rfl,by simp,fun k hk _=>Below.heap_alloc _ _ _ Zo⟩
def Fr.setCell{B:Nat}{S:Nat→Prop}{a w:World}(h:Fr B S a w){p:Addr}(hp:B≤p.block∨S p.block)(u:Value):Fr B S a (w.setCell p u):=
 h.trans ⟨rfl,rfl,rfl,by simp[World.setCell],fun k hk hs=>Below.heap_setCell _ _ _ _ (fun e=>by subst e;rcases hp with h|h;omega;exact hs h)⟩
def Fr.grown{B:Nat}{S:Nat→Prop}{a w w':World}{row:Option Nat}(h:Fr B S a w)(hg:w.grownBy w' row)(hB:B≤w.heap.size)(hr:∀k,row=some k→B≤k):Fr B S a w':=
 h.trans ⟨hg.os,hg.tape,hg.output,hg.size,fun k hk _=>hg.block k Zo (fun e=>by have:=hr k e.symm;omega)⟩
def Fr.cell{B:Nat}{S:Nat→Prop}{w w':World}(h:Fr B S w w'){p:Addr}(hp:p.block<B)(hs:¬S p.block):w'.cell? p=w.cell? p:=World.cell?_of_block (w:=w) (h.block p.block hp hs)
def Fr.frozen{B:Nat}{S:Nat→Prop}{w w':World}(h:Fr B S w w'){p:Addr}(hp:p.block<B)(hs:¬S p.block):w'.frozen? p=w.frozen? p:=World.frozen?_of_block (w:=w) (h.block p.block hp hs)
def Sv{W w1:World}(hb:Below W W w1):(∀b o,b<W.heap.size→w1.cell? ⟨b,o,none⟩=W.cell? ⟨b,o,none⟩)∧(∀b o,b<W.heap.size→w1.frozen? ⟨b,o,none⟩=W.frozen? ⟨b,o,none⟩):=
 ⟨fun b o h=>hb.cell (p:=⟨b,o,none⟩) h,fun b o h=>hb.frozen (p:=⟨b,o,none⟩) h⟩
def Fr.setAt{B b:Nat}{a w:World}(h:Fr B (· = b) a w)(o:Nat)(u:Value):Fr B (· = b) a (w.setCell ⟨b,o,none⟩ u):=h.setCell (p:=⟨b,o,none⟩) (WG rfl) u
def Z'(w:World)(o:Obj):Below w w (w.alloc o):=(YE _ _).alloc (Zq _) _
def size_setCell(w:World)(a:Addr)(v:Value):(w.setCell a v).heap.size=w.heap.size:=by simp[World.setCell]
def size_alloc(w:World)(o:Obj):(w.alloc o).heap.size=w.heap.size+1:=by simp
def Row(w:World)(e:TypeId)(v:Value)(n:Nat)(xs:List Value):Prop:=
 ∃a cap,v = .slice a n cap∧n≤cap∧cap≤maxLen∧(a=none→n=0∧cap=0)∧(xs=[]∨∃b off c fr,a=some ⟨b,off,none⟩∧w.heap[b]?=some (.cells c e fr)∧∀j,j<xs.length→c[off+j]?=xs[j]?)
def Row.fr{B:Nat}{S:Nat→Prop}{w w':World}{e:TypeId}{v:Value}{n:Nat}{xs:List Value}(h:Row w e v n xs)(hf:Fr B S w w')(hB:w.heap.size≤B)(hS:∀k c fr,S k→w.heap[k]?≠some (.cells c e fr)):Row w' e v n xs:=by
 obtain⟨a,cap,hv,h1,h2,h0,h3⟩:=h;refine⟨a,cap,hv,h1,h2,h0,?_⟩;rcases h3 with h3|⟨b,off,c,fr,ha,hb,hc⟩
 ·exact WQ h3
 ·have Ow:b<w.heap.size:=by
   rcases Nat.lt_or_ge b w with h|h
   ·exact h
   ·rw[DT h]at hb;cases hb
  exact WG ⟨b,off,c,fr,ha,by rw[hf.block b Zo (fun hs=>hS b c fr hs hb)];exact hb,hc⟩
def Row.below{w w':World}{e:TypeId}{v:Value}{n:Nat}{xs:List Value}(h:Row w e v n xs)(hb:Below w w w'):Row w' e v n xs:=
 h.fr (Fr.Z8 Pj hb) (Zq _) (fun _ _ _ h=>h.elim)
def Row.setCell{w:World}{e:TypeId}{v:Value}{n:Nat}{xs:List Value}(h:Row w e v n xs){p:Addr}{c:Array Value}{e2:TypeId}{f:Nat×Nat}(hp:w.heap[p.block]?=some (.cells c e2 f))(WA:e≠e2)(u:Value):Row (w.setCell p u) e v n xs:=
 h.fr ((Fr.refl w (· = p.block) w).setCell (WG rfl) u) (Zq _) (fun k c' fr hk he=>by subst hk;rw[hp]at he;injection he with he;injection he with _ he _;exact WA he.symm)
def Z9(w:World)(o:Obj):(w.alloc o).heap[w.heap.size]?=some o:=by show(w.heap.push o)[w.heap.size]?=_;simp
def ao(w:World)(A B:Obj):((w.alloc A).alloc B).heap[w.heap.size]?=some A∧((w.alloc A).alloc B).heap[w.heap.size+1]?=some B:=by
 constructor
 ·rw[Below.heap_alloc _ _ _ Zi];exact Z9 w A
 ·have:=Z9 (w.alloc A) B
  rwa[World.size_alloc]at this
def Ub{c c':Array Value}{e e':TypeId}{f f':Nat×Nat}(h:e≠e'):some (Obj.cells c e f)≠some (Obj.cells c' e' f'):=by
 intro he;injection he with he;injection he with _ he _;exact h he
def Row.nil(w:World)(e:TypeId):Row w e (.slice none 0 0) 0 []:=⟨none,0,rfl,Zq _,Tv _,fun _=>⟨rfl,rfl⟩,WQ rfl⟩
def Row.Z4{w:World}{base:Nat}{e:TypeId}{size:Nat}{v:Value}{n:Nat}{xs:List Value}(h:w.ownsRow base e size v n xs):Row w e v n xs:=by
 obtain⟨hl,h⟩:=h;rcases h with⟨hv,hn⟩|⟨g,cap,cur,hv,_,hh,h1,h2,h3,h4⟩
 ·subst hn;have:xs=[]:=BK Zo;subst this;exact⟨none,0,hv,Zq _,Tv _,fun _=>⟨rfl,rfl⟩,WQ rfl⟩
 ·refine⟨some ⟨g,0,none⟩,cap,hv,h1,h2,(fun h=>by cases h),WG ⟨g,0,cur,_,rfl,hh,fun j hj=>?_⟩⟩;rw[PA,←h4,List.getElem?_take_of_lt Zo];simp
def Sh(w:World)(e:TypeId)(size:Nat):(w.alloc (.cells #[] e)).ownsRow w e size (.slice (some ⟨w,0,none⟩) 0 0) 0 []:=
 ⟨by simp,.inr ⟨w,0,#[],rfl,Zq _,(by show(w.heap.push _)[w.heap.size]?=_;simp),Zq _,Tv _,by simp,by simp⟩⟩
def Row.open{w:World}{e:TypeId}{v:Value}{n:Nat}{xs:List Value}(h:Row w e v n xs)(WA:0<xs.length):∃b off cap,v = .slice (some ⟨b,off,none⟩) n cap∧n≤cap∧cap≤maxLen∧b<w.heap.size∧∀j,j<xs.length→w.cell? ⟨b,off+j,none⟩=xs[j]?:=by
 obtain⟨a,cap,hv,h1,h2,_,h3⟩:=h;rcases h3 with h3|⟨b,off,c,fr,ha,hb,hc⟩
 ·subst h3;simp at WA
 ·subst ha
  have Ow:b<w.heap.size:=by
   rcases Nat.lt_or_ge b w with h|h
   ·exact h
   ·rw[DT h]at hb;cases hb
  refine⟨b,off,cap,hv,h1,h2,Ow,fun j hj=>?_⟩;simp only[World.cell?,hb];exact hc j hj
def Row.len{w:World}{e:TypeId}{v:Value}{n:Nat}{xs:List Value}(h:Row w e v n xs):n≤9223372036854775807:=by
 obtain⟨a,cap,_,h1,h2,_,_⟩:=h;unfold maxLen at h2;omega
def XG(w:World)(v:Value)(n:Nat)(xs:List Value):Prop:=
 ∃a cap,v = .slice a n cap∧n≤cap∧cap≤maxLen∧(a=none→n=0∧cap=0)∧(xs=[]∨∃b off,a=some ⟨b,off,none⟩∧b<w.heap.size∧∀j,j<xs.length→w.cell? ⟨b,off+j,none⟩=xs[j]?)
def XG.below{w w':World}{v:Value}{n:Nat}{xs:List Value}(h:XG w v n xs)(hb:Below w w w'):XG w' v n xs:=by
 obtain⟨a,cap,hv,h1,h2,h0,h3⟩:=h;refine⟨a,cap,hv,h1,h2,h0,?_⟩;rcases h3 with h3|⟨b,off,ha,Ow,hc⟩
 ·exact WQ h3
 ·exact WG ⟨b,off,ha,Od Ow hb.size,fun j hj=>(hb.cell (p:=⟨b,off+j,none⟩) Ow).trans (hc j hj)⟩
def XG.len{w:World}{v:Value}{n:Nat}{xs:List Value}(h:XG w v n xs):n≤9223372036854775807:=by
 obtain⟨a,cap,_,h1,h2,_,_⟩:=h;unfold maxLen at h2;omega
def XG.open{w:World}{v:Value}{n:Nat}{xs:List Value}(h:XG w v n xs)(WA:0<xs.length):∃b off cap,v = .slice (some ⟨b,off,none⟩) n cap∧n≤cap∧cap≤maxLen∧b<w.heap.size∧∀j,j<xs.length→w.cell? ⟨b,off+j,none⟩=xs[j]?:=by
 obtain⟨a,cap,hv,h1,h2,_,h3⟩:=h;rcases h3 with h3|⟨b,off,ha,Ow,hc⟩
 ·subst h3;simp at WA
 ·subst ha;exact⟨b,off,cap,hv,h1,h2,Ow,hc⟩
def Row.r{w:World}{e:TypeId}{v:Value}{n:Nat}{xs:List Value}(h:Row w e v n xs):XG w v n xs:=by
 obtain⟨a,cap,hv,h1,h2,h0,h3⟩:=h;refine⟨a,cap,hv,h1,h2,h0,?_⟩;rcases h3 with h3|⟨b,off,c,fr,ha,hb,hc⟩
 ·exact WQ h3
 ·refine WG ⟨b,off,ha,?_,fun j hj=>?_⟩
  ·rcases Nat.lt_or_ge b w with h|h
   ·exact h
   ·rw[DT h]at hb;cases hb
  ·simp only[World.cell?,hb];exact hc j hj
def XG.nil(w:World):XG w (.slice none 0 0) 0 []:=⟨none,0,rfl,Zq _,Tv _,fun _=>⟨rfl,rfl⟩,WQ rfl⟩
def Mg{α:Type}(f:α→List Value)(k:Nat)(hk:∀x,(f x).length=k):∀(l:List α) (i j:Nat) (x:α),l[i]?=some x→j<k→(l.flatMap f)[i*k+j]?=(f x)[j]?
 | [],_,_,_,h,_=>by simp at h
 | y :: l,0,j,x,h,hj=>by
  simp only[R_,Option.some.injEq]at h;subst h;rw[List.flatMap_cons,Nat.zero_mul,PA,List.getElem?_append_left (by rw[hk];exact hj)]
 | y :: l,i+1,j,x,h,hj=>by
  rw[Rw]at h;rw[List.flatMap_cons,Z1d (by rw[hk,Nat.succ_mul];omega),hk,show(i+1)*k+j-k=i*k+j by rw[Nat.succ_mul];omega];exact Mg f k hk l i j x h hj
def XH{α:Type}(f:α→List Value)(k:Nat)(hk:∀x,(f x).length=k)(l:List α):(l.flatMap f).length=l.length*k:=by
 induction l with
 | nil=>simp
 | cons y l ih=>rw[List.flatMap_cons,UC,hk,ih,List.length_cons,Nat.succ_mul];omega
def Re(l:List UInt8):List Value:=l.map fun b=>Value.int .u8 (b.toNat:Int)
def Xa(l:List UInt8):(Re l).length=l.length:=Te _
def Oh(l:List UInt8)(k:Nat):(Re l).take k=Re (l.take k):=(List.map_take).symm
def PN(l:List UInt8)(k:Nat):(Re l).drop k=Re (l.drop k):=(List.map_drop).symm
def Ap(l:List UInt8):∀u∈Re l,u.oneCell'=true:=by
 intro u hu;obtain⟨b,_,rfl⟩:=vS.1 hu;rfl
def be(l:List UInt8):Nat:=l.foldl (fun n x=>n*256+x.toNat) 0
def eD(l:List UInt8)(x:UInt8):be (l++[x])=be l*256+x.toNat:=by unfold be;rw[List.foldl_append];rfl
def bH:∀(l:List UInt8) (n:Nat),l.foldl (fun n x=>n*256+x.toNat) n<(n+1)*256 ^ l.length
 | [],n=>by simp
 | x :: l,n=>by
  have ih:=bH l (n*256+x.toNat);have hx:=x.toNat_lt;rw[List.foldl_cons,List.length_cons,Nat.pow_succ,Nat.mul_comm (256 ^ l.length),←Nat.mul_assoc];exact Od ih (Nat.mul_le_mul_right _ Zo)
def BN(l:List UInt8):be l<256 ^ l.length:=by
 have:=bH l 0;rw[PA,Nat.one_mul]at this;exact this
def be_lt7{l:List UInt8}(h:l.length≤7):be l<72057594037927936:=
 Od (BN l) (PJ (Nat.pow_le_pow_right Zd h) Zd)
def be_lt4{l:List UInt8}(h:l.length≤4):be l<4294967296:=
 Od (BN l) (PJ (Nat.pow_le_pow_right Zd h) Zd)
def be_lt3{l:List UInt8}(h:l.length≤3):be l<16777216:=
 Od (BN l) (PJ (Nat.pow_le_pow_right Zd h) Zd)
def be_lt2{l:List UInt8}(h:l.length≤2):be l<65536:=
 Od (BN l) (PJ (Nat.pow_le_pow_right Zd h) Zd)
def gh(n:Nat)(x:UInt8)(h:n<72057594037927936):bits .or .u64 ((n:Int)*256) (x.toNat:Int)=((n*256+x.toNat:Nat):Int):=by
 have hx:=x.toNat_lt;have e:((n:Int)*256)=((n*256:Nat):Int):=by omega
 rw[e,u64_or_nat (n*256) x.toNat Zo Zo,nat_join 8 (n*256) x.toNat Zo Zo]
def within(len:Nat)(at' size:Int):Bool:=decide (1≤size)&&decide (size≤8)&&decide (0≤at')&&decide (at'≤(len:Int)-size)
def within_iff{len:Nat}{at' size:Int}:within len at' size=true↔1≤size∧size≤8∧0≤at'∧at'+size≤len:=by
 unfold within;simp only[UN,Su];omega
def get(b:List UInt8)(at' size:Int):Nat:=if within b.length at' size then be ((b.drop at'.toNat).take size.toNat)else 0
section
variable {P:Program}
structure Elem(P:Program)(t e:TypeId)(size bytes:Nat):Prop where
 ht:P.underlying t=some (.slice e)
 info:∃z,(P.info? e).map (fun i=>(i.zero,i.size,i.bytes))=some (some z,size,bytes)∧z.cells.size=size
 pos:0<size
def YN{ops:Array Oper}{rest:List Oper}{o:Oper}{a:Act}{w:World}{Q:Exit→Act→World→Prop}(Lt:o.guard=none)(s x:Operand)(t:TypeId)
  (ho:o.op = .call {callee:= .builtin .append,args:=#[s,x],argTypes:=#[t,t]})
  (base:Nat) {e:TypeId} {size bytes:Nat} (E:Elem P t e size bytes)
  (v:Value) (n:Nat) (xs:List Value) (hs:a.eval s=v) (Yy:w.ownsRow base e size v n xs)
  (vx:Value) (m:Nat) (news:List Value) (hx:a.eval x=vx) (ZW:Row w e vx m news) (hl:news.length=m*size) (h1:∀u∈news,u.oneCell'=true)
  (Ue:(n+m)*bytes≤140737488355328) (j5:n+m≤9223372036854775807) (Rz:base≤w.heap.size)
  (h:∀v' w',Hid (w'.ownsRow base e size v' (n+m) (xs++news))→Hid (w.grownBy w' v.ownBlock)→wpList P ops Q rest (a.put o.dst v') w'):wpList P ops Q (o :: rest) a w:=by
 obtain⟨z,Um,g_⟩:=E.info;obtain⟨i,hi,hz,RI,kx⟩:=info_parts Um;obtain⟨ad,cap,hv,_,_,h0,hr⟩:=ZW;subst hv;have tQ:n+m≤maxLen:=by unfold maxLen;omega
 cases ad with
 | none=>
  exact Yx94
 | some ad=>
  refine wpList_append_own w Lt s x t ho base e i z size bytes E.ht hi hz RI kx g_ E.pos v n xs hs Yy ad m cap news hx hl ?_ h1 tQ Ue Rz (fun v' w' h2 h3 _=>h v' w' h2 h3);intro j u hu;rcases hr with hr|⟨b,off,c,fr,Ry,hb,hc⟩
  ·subst hr;simp at hu
  ·cases Ry;have hj:j<news.length:=(List.getElem?_eq_some_iff.1 hu).1;have:=hc j hj;have MC:(⟨b,off,none⟩:Addr).add j=⟨b,off+j,none⟩:=by unfold Addr.add;split <;> simp_all
   rw[MC];simp only[World.cell?,hb];simpa[hu]using this
def Py{ops:Array Oper}{rest:List Oper}{o:Oper}{a:Act}{w:World}{Q:Exit→Act→World→Prop}(Lt:o.guard=none)(s x:Operand)(t:TypeId)
  (ho:o.op = .call {callee:= .builtin .append,args:=#[s,x],argTypes:=#[t,t]})
  (base:Nat) {e:TypeId} {size bytes:Nat} (E:Elem P t e size bytes)
  (v:Value) (n:Nat) (xs:List Value) (hs:a.eval s=v) (Yy:w.ownsRow base e size v n xs)
  (vx:Value) (m:Nat) (news:List Value) (hx:a.eval x=vx) (ZW:XG w vx m news) (hl:news.length=m*size) (h1:∀u∈news,u.oneCell'=true)
  (Ue:(n+m)*bytes≤140737488355328) (j5:n+m≤9223372036854775807) (Rz:base≤w.heap.size)
  (h:∀v' w',Hid (w'.ownsRow base e size v' (n+m) (xs++news))→Hid (w.grownBy w' v.ownBlock)→wpList P ops Q rest (a.put o.dst v') w'):wpList P ops Q (o :: rest) a w:=by
 obtain⟨z,Um,g_⟩:=E.info;obtain⟨i,hi,hz,RI,kx⟩:=info_parts Um;obtain⟨ad,cap,hv,_,_,h0,hr⟩:=ZW;subst hv;have tQ:n+m≤maxLen:=by unfold maxLen;omega
 cases ad with
 | none=>
  exact Yx94
 | some ad=>
  refine wpList_append_own w Lt s x t ho base e i z size bytes E.ht hi hz RI kx g_ E.pos v n xs hs Yy ad m cap news hx hl ?_ h1 tQ Ue Rz (fun v' w' h2 h3 _=>h v' w' h2 h3);intro j u hu;rcases hr with hr|⟨b,off,Ry,Ow,hc⟩
  ·subst hr;simp at hu
  ·cases Ry;have hj:j<news.length:=(List.getElem?_eq_some_iff.1 hu).1;have:=hc j hj;have MC:(⟨b,off,none⟩:Addr).add j=⟨b,off+j,none⟩:=by unfold Addr.add;split <;> simp_all
   rw[MC,this];exact hu
end
section
variable {P:Program}
def Elem.Bk{t e:TypeId}{size bytes:Nat}(E:Elem P t e size bytes)(w:World):(sizeOf (P.elem t)).run P w = .ok size w:=by
 obtain⟨z,Um,_⟩:=E.info;obtain⟨i,hi,_,RI,_⟩:=info_parts Um;have he:P.elem t=e:=by simp[Program.elem,E.ht]
 rw[he];simp[sizeOf,typeInfo,hi,RI]
def Elem.under{t e:TypeId}{size bytes:Nat}(E:Elem P t e size bytes):P.underlying t=some (.slice (P.elem t)):=by
 have he:P.elem t=e:=by simp[Program.elem,E.ht]
 rw[he];exact E.ht
def RT{t e:TypeId}{size bytes:Nat}(E:Elem P t e size bytes)(a:Option Addr)(n cap k:Nat)(hk:k≤cap) :
  ∃a',(∀w,(Instr.slice t (.slice a n cap) none (some (.int .i64 (k:Int))) none).run P w = .ok (.slice a' k cap) w) ∧
   (∀w xs,k≤n→xs.length=n*size→Row w e (.slice a n cap) n xs→Row w e (.slice a' k cap) k (xs.take (k*size))) ∧
   (∀w xs,k≤n→xs.length=n*size→XG w (.slice a n cap) n xs→XG w (.slice a' k cap) k (xs.take (k*size))):=by
 have MC:∀(b off:Nat),(⟨b,off,none⟩:Addr).add (0*size)=⟨b,off,none⟩:=fun b off=>by simp[Addr.add]
 have ha:∀b off:Nat,a=some ⟨b,off,none⟩→(if cap=0 then a else a.map (·.add (0*size)))=some ⟨b,off,none⟩:=fun b off h=>by
  subst h;split
  ·rfl
  ·simp[Addr.add]
 refine⟨if cap=0 then a else a.map (·.add (0*size)),fun w=>?_,?_,?_⟩
 ·rw[run_slice_h w t a n cap E.under .i64 (k:Int) Zo Zo,E.Bk];simp[Result.andThen,sliced]
 ·rintro w xs hkn hl ⟨a2,cap2,hv,h1,h2,h0,h3⟩;cases hv;refine⟨_,cap,rfl,hk,h2,?_,?_⟩
  ·exact Yt9
  ·rcases h3 with h3|⟨b,off,c,fr,Ry,hb,hc⟩
   ·subst h3;simp
   ·refine WG ⟨b,off,c,fr,ha b off Ry,hb,fun j hj=>?_⟩;rw[SC]at hj;rw[hc j Zo,List.getElem?_take_of_lt Zo]
 ·rintro w xs hkn hl ⟨a2,cap2,hv,h1,h2,h0,h3⟩;cases hv;refine⟨_,cap,rfl,hk,h2,?_,?_⟩
  ·exact Yt9
  ·rcases h3 with h3|⟨b,off,Ry,hb,hc⟩
   ·subst h3;simp
   ·refine WG ⟨b,off,ha b off Ry,hb,fun j hj=>?_⟩;rw[SC]at hj;rw[hc j Zo,List.getElem?_take_of_lt Zo]
def Sk{t e:TypeId}{size bytes:Nat}(E:Elem P t e size bytes)(a:Option Addr)(n cap k:Nat)(hk:k≤n)(hn:n≤cap) :
  ∃a',(∀w,(Instr.slice t (.slice a n cap) (some (.int .i64 (k:Int))) none none).run P w = .ok (.slice a' (n-k) (cap-k)) w) ∧
   (∀w xs,xs.length=n*size→Row w e (.slice a n cap) n xs→Row w e (.slice a' (n-k) (cap-k)) (n-k) (xs.drop (k*size))) ∧
   (∀w xs,xs.length=n*size→XG w (.slice a n cap) n xs→XG w (.slice a' (n-k) (cap-k)) (n-k) (xs.drop (k*size))):=by
 have MC:∀(b off d:Nat),(⟨b,off,none⟩:Addr).add d=⟨b,off+d,none⟩:=fun b off d=>by unfold Addr.add;split <;> simp_all
 refine⟨if cap=k then a else a.map (·.add (k*size)),fun w=>?_,?_,?_⟩
 ·rw[run_slice_l w t a n cap E.under .i64 (k:Int) Zo Zo,E.Bk];simp[Result.andThen,sliced]
 ·rintro w xs hl ⟨a2,cap2,hv,h1,h2,h0,h3⟩;cases hv;refine⟨_,cap-k,rfl,Zo,by unfold maxLen at *;omega,?_,?_⟩
  ·exact Yt9
  ·rcases h3 with h3|⟨b,off,c,fr,Ry,hb,hc⟩
   ·subst h3;simp
   ·by_cases hck:cap=k
    ·obtain rfl:n=k:=by omega
     left;rw[←hl];simp
    ·refine WG ⟨b,off+k*size,c,fr,by rw[Z3 hck,Ry];simp[MC],hb,fun j hj=>?_⟩;rw[QG]at hj;rw[Nat.add_assoc,hc _ Zo,List.getElem?_drop]
 ·rintro w xs hl ⟨a2,cap2,hv,h1,h2,h0,h3⟩;cases hv;refine⟨_,cap-k,rfl,Zo,by unfold maxLen at *;omega,?_,?_⟩
  ·exact Yt9
  ·rcases h3 with h3|⟨b,off,Ry,hb,hc⟩
   ·subst h3;simp
   ·by_cases hck:cap=k
    ·obtain rfl:n=k:=by omega
     left;rw[←hl];simp
    ·refine WG ⟨b,off+k*size,by rw[Z3 hck,Ry];simp[MC],hb,fun j hj=>?_⟩;rw[QG]at hj;rw[Nat.add_assoc,hc _ Zo,List.getElem?_drop]
end
section
variable {P:Program}
def VZ{t e:TypeId}{size bytes:Nat}(E:Elem P t e size bytes)(a:Option Addr)(n cap l h:Nat)(hl:l≤h)(hh:h≤n)(hn:n≤cap) :
  ∃a',(∀w,(Instr.slice t (.slice a n cap) (some (.int .i64 (l:Int))) (some (.int .i64 (h:Int))) none).run P w = .ok (.slice a' (h-l) (cap-l)) w) ∧
   (∀w xs,xs.length=n*size→XG w (.slice a n cap) n xs→XG w (.slice a' (h-l) (cap-l)) (h-l) ((xs.drop (l*size)).take ((h-l)*size))):=by
 have MC:∀(b off d:Nat),(⟨b,off,none⟩:Addr).add d=⟨b,off+d,none⟩:=fun b off d=>by unfold Addr.add;split <;> simp_all
 refine⟨if cap=l then a else a.map (·.add (l*size)),fun w=>?_,?_⟩
 ·rw[run_slice_lh w t a n cap E.under .i64 .i64 (l:Int) (h:Int) Zo Zo Zo,E.Bk];simp[Result.andThen,sliced]
 ·rintro w xs hxl ⟨a2,cap2,hv,h1,h2,h0,h3⟩;cases hv;refine⟨_,cap-l,rfl,Zo,by unfold maxLen at *;omega,?_,?_⟩
  ·intro kL
   have:a=none:=by
    split at kL
    ·exact kL
    ·simpa using kL
   have:=h0 this;omega
  ·rcases h3 with h3|⟨b,off,Ry,hb,hc⟩
   ·subst h3;simp
   ·by_cases hck:cap=l
    ·left
     have:h-l=0:=by omega
     rw[this];simp
    ·refine WG ⟨b,off+l*size,by rw[Z3 hck,Ry];simp[MC],hb,fun j hj=>?_⟩;rw[SC,QG]at hj;rw[Nat.add_assoc,hc _ Zo,List.getElem?_take_of_lt Zo,List.getElem?_drop]
end
def XK{a b:Bool}(h:a=b):Ending.returned (.bool a) = .returned (.bool b):=by rw[h]
def Vt:Elem prog 30 5 1 1:=⟨underlying30,⟨.int .u8 0,by kernel_rfl,rfl⟩,by decide⟩
abbrev XU(w:World)(v:Value)(l:List UInt8):Prop:=XG w v l.length (Re l)
def Al{w:World}{v:Value}{l:List UInt8}(h:XU w v l)(hl:0<l.length):∃g off cap,v = .slice (some ⟨g,off,none⟩) l.length cap∧l.length≤cap∧cap≤maxLen ∧
  ∀(j:Nat) (hj:j<l.length),w.cell? ⟨g,off+j,none⟩=some (.int .u8 (l[j].toNat:Int)):=by
 obtain⟨g,off,cap,h1,h2,h3,_,h5⟩:=h.open (by rw[Xa];exact hl);refine⟨g,off,cap,h1,h2,h3,fun j hj=>?_⟩;rw[h5 j (by rw[Xa];exact hj)];simp[Re,hj]
def vE(a:Option Addr)(n c:Nat)(p q:Int)(w:World)(hn:n≤9223372036854775807) :
  Calls prog 176 #[.slice a n c,.int .i64 p,.int .i64 q] w fun e w'=>e = .returned (.bool (within n p q))∧w=w':=by
 have HW:Hid (within n p q=(decide (1≤q)&&decide (q≤8)&&decide (0≤p)&&decide (p≤(n:Int)-q))):=rfl;generalize within n p q=x at *;by_cases h1:1≤q
 ·by_cases h2:q≤8
  ·by_cases h3:0≤p
   ·have HF:Hid (x=decide (p≤(n:Int)-q)):=by show _=_;rw[HW.o,WV h1,WV h2,WV h3];simp
    have d1:decide (1≤q)=true:=WV h1;have d2:decide (q≤8)=true:=WV h2;have d3:decide (0≤p)=true:=WV h3;exact eo
   ·have HF:Hid (x=false):=by show _=_;rw[HW.o,WH h3];simp
    have d1:decide (1≤q)=true:=WV h1;have d2:decide (q≤8)=true:=WV h2;have d3:decide (0≤p)=false:=WH h3;exact eo
  ·have HF:Hid (x=false):=by show _=_;rw[HW.o,WH h2];simp
   have d1:decide (1≤q)=true:=WV h1;have d2:decide (q≤8)=false:=WH h2;exact eo
 ·have HF:Hid (x=false):=by show _=_;rw[HW.o,WH h1];simp
  have d1:decide (1≤q)=false:=WH h1;exact eo
def Nw(v:Value)(b:List UInt8)(p q:Int)(w:World)(hv:XU w v b) :
  Calls prog 155 #[v,.int .i64 p,.int .i64 q] w fun e w'=>e = .returned (.tuple (Jo (get b p q:Nat) (within b.length p q)))∧w=w':=by
 have hlen:=hv.len;obtain⟨a,c,rfl,hc,-⟩:=id hv;have CW:=Zh (vE a b.length c p q w hlen);cases hw:within b.length p q
 ·have HG:Hid (get b p q=0):=by show _=_;unfold get;rw[hw];rfl
  rw[hw]at CW;rw[HG.o];clear hw HG;go_enter func155,ntmps155;go_wp2_with (go_at_call 176;refine CW.o.mono ?_;rintro e w' ⟨rfl,rfl⟩)
  go_ret2
  exact⟨rfl,rfl⟩
 ·obtain⟨h1,h2,h3,h4⟩:=within_iff.1 hw;have HG:Hid (get b p q=be ((b.drop p.toNat).take q.toNat)):=by show _=_;unfold get;rw[hw];rfl
  rw[hw]at CW;obtain⟨p,rfl⟩:=RV h3;obtain⟨q,rfl⟩:=RV (show 0≤q by omega);rw[Wi,Wi]at HG;obtain⟨a',Uf,ZW⟩:=VZ Vt a b.length c p (p+q) Zo Zo hc;have ZW:=ZW w (Re b) (by rw[Xa];omega) hv;rw[Nat.mul_one,Nat.mul_one,Nat.add_sub_cancel_left,PN,Oh]at ZW;rw[Nat.add_sub_cancel_left]at Uf;have hql:((b.drop p).take q).length=q:=by rw[SC,QG];omega
  have cy:((p+q:Nat):Int)=(p:Int)+(q:Int):=by omega
  rw[cy]at Uf;rw[HG.o];have U0:=Zh ZW;clear hw HG ZW hv cy;generalize(b.drop p).take q=s at *;subst hql;go_enter func155,ntmps155;go_wp2_with (go_at_call 176;refine CW.o.mono ?_;rintro e w' ⟨rfl,rfl⟩)
  exact Yx44
def y9(a:Option Addr)(n c:Nat)(p q:Int)(w:World)(hn:n≤9223372036854775807) :
  Calls prog 167 #[.slice a n c,.int .i64 p,.int .i64 q] w fun e w'=>e = .returned (.bool (within n p q))∧w=w':=by
 have HW:Hid (within n p q=(decide (1≤q)&&decide (q≤8)&&decide (0≤p)&&decide (p≤(n:Int)-q))):=rfl;generalize within n p q=x at *;by_cases h1:1≤q
 ·by_cases h2:q≤8
  ·by_cases h3:0≤p
   ·have d1:decide (1≤q)=true:=WV h1;have d2:decide (q≤8)=true:=WV h2;have d3:decide (0≤p)=true:=WV h3;by_cases h4:p≤(n:Int)
    ·have HF:Hid (x=decide (q≤(n:Int)-p)):=by
      show _=_;rw[HW.o,d1,d2,d3];simp only[Bool.true_and];exact decide_eq_decide.2 Zo
     have d4:decide (p≤(n:Int))=true:=WV h4;exact jB
    ·have HF:Hid (x=false):=by show _=_;rw[HW.o,WH (show¬p≤(n:Int)-q by omega),Bool.and_false]
     have d4:decide (p≤(n:Int))=false:=WH h4;exact jB
   ·have HF:Hid (x=false):=by show _=_;rw[HW.o,WH h3];simp
    have d1:decide (1≤q)=true:=WV h1;have d2:decide (q≤8)=true:=WV h2;have d3:decide (0≤p)=false:=WH h3;exact jB
  ·have HF:Hid (x=false):=by show _=_;rw[HW.o,WH h2];simp
   have d1:decide (1≤q)=true:=WV h1;have d2:decide (q≤8)=false:=WH h2;exact jB
 ·have HF:Hid (x=false):=by show _=_;rw[HW.o,WH h1];simp
  have d1:decide (1≤q)=false:=WH h1;exact jB
def mh(v:Value)(b:List UInt8)(p q:Int)(w:World)(hv:XU w v b) :
  Calls prog 145 #[v,.int .i64 p,.int .i64 q] w fun e w'=>e = .returned (.tuple (Jo (get b p q:Nat) (within b.length p q)))∧w=w':=by
 have hlen:=hv.len;obtain⟨a,c,rfl,hc,-⟩:=id hv;have CW:=Zh (y9 a b.length c p q w hlen);cases hw:within b.length p q
 ·have HG:Hid (get b p q=0):=by show _=_;unfold get;rw[hw];rfl
  rw[hw]at CW;rw[HG.o];clear hw HG;go_enter func145,ntmps145;go_wp2_with (go_at_call 167;refine CW.o.mono ?_;rintro e w' ⟨rfl,rfl⟩)
  go_ret2
  exact⟨rfl,rfl⟩
 ·obtain⟨h1,h2,h3,h4⟩:=within_iff.1 hw;have HG:Hid (get b p q=be ((b.drop p.toNat).take q.toNat)):=by show _=_;unfold get;rw[hw];rfl
  rw[hw]at CW;obtain⟨p,rfl⟩:=RV h3;obtain⟨q,rfl⟩:=RV (show 0≤q by omega);rw[Wi,Wi]at HG;obtain⟨a',Uf,ZW⟩:=VZ Vt a b.length c p (p+q) Zo Zo hc;have ZW:=ZW w (Re b) (by rw[Xa];omega) hv;rw[Nat.mul_one,Nat.mul_one,Nat.add_sub_cancel_left,PN,Oh]at ZW;rw[Nat.add_sub_cancel_left]at Uf;have hql:((b.drop p).take q).length=q:=by rw[SC,QG];omega
  have cy:((p+q:Nat):Int)=(p:Int)+(q:Int):=by omega
  rw[cy]at Uf;rw[HG.o];have U0:=Zh ZW;clear hw HG ZW hv cy;generalize(b.drop p).take q=s at *;subst hql;go_enter func145,ntmps145;go_wp2_with (go_at_call 167;refine CW.o.mono ?_;rintro e w' ⟨rfl,rfl⟩)
  exact Yx44
def at8(b:List UInt8)(i:Nat):Nat:=(b.getD i 0).toNat
structure JR where
 Xq:Bool
 type:Int
 seq:Int
 time:Int
 Yi:Int
 Vs:List Int
 Xo:Bool
 XZ:Int
 ext:List UInt8
 Zz:List UInt8
 pad:Int
def WT:JR:=⟨false,0,0,0,0,[],false,0,[],[],0⟩
def Vf(b:List UInt8)(p:Nat):(Nat×Nat)×Bool:=
 if at8 b 0/16%2=0 then((p,p),decide (p≤b.length))
 else((p+4,p+4+4*get b ((p:Int)+2) 2),within b.length ((p:Int)+2) 2&&decide (p+4+4*get b ((p:Int)+2) 2≤b.length))
def Rp(b rest:List UInt8):Nat×Bool:=
 if at8 b 0/32%2=0 then(0,true)
 else if rest.length=0 then(0,false)
 else
  let n:=at8 rest (rest.length-1)
  if n=0∨rest.length<n then(0,false)
  else if((rest.drop (rest.length-n)).take (n-1)).all (fun x=>decide (x=0))then(n,true)else(0,false)
def looks(b:List UInt8):(Nat×Nat×Nat)×Int:=
 if 512<b.length then((0,0,0),5)
 else if b.length<12 then((0,0,0),2)
 else if at8 b 0/64≠2 then((0,0,0),1)
 else if 192≤at8 b 1∧at8 b 1≤223 then((0,0,0),4)
 else
  let x:=Vf b (12+4*(at8 b 0%16))
  if x.2=false then((0,0,0),2)
  else
   let y:=Rp b (b.drop x.1.2)
   if y.2=false then((0,0,0),1)else((x.1.1,x.1.2,b.length-y.1),0)
def Ti(b:List UInt8)(s:Nat×Nat×Nat):JR where
 Xq:=decide (128≤at8 b 1)
 type:=(at8 b 1%128:Nat)
 seq:=get b 2 2
 time:=get b 4 4
 Yi:=get b 8 4
 Vs:=(List.range (at8 b 0%16)).map fun(i:Nat)=>((get b (12+4*(i:Int)) 4:Nat):Int)
 Xo:=decide (at8 b 0/16%2=1)
 XZ:=if at8 b 0/16%2=1 then(get b ((s.1:Int)-4) 2:Int)else 0
 ext:=if at8 b 0/16%2=1 then(b.drop s.1).take (s.2.1-s.1)else[]
 Zz:=(b.drop s.2.1).take (s.2.2-s.2.1)
 pad:=(b.length:Int)-s.2.2
def YH(b:List UInt8):JR×Int:=if(looks b).2≠0 then(WT,(looks b).2)else(Ti b (looks b).1,0)
structure Eu where
 ZC:Int
 key:Bool
 start:Bool
 frame:Int
def S_:Eu:=⟨0,false,false,0⟩
def Yu(b:List UInt8):Eu×Int:=
 if b.length<4 then(S_,2)
 else if at8 b 0/4%16≠0∨at8 b 0%4=3∨at8 b 1≠90 then(S_,1)
 else(⟨(at8 b 0%4:Nat),decide (128≤at8 b 0),decide (at8 b 0/64%2=1),get b 2 2⟩,0)
def at8_lt{b:List UInt8}{i:Nat}(h:i<b.length):at8 b i=b[i].toNat:=by
 unfold at8;rw[QQ,U' h];rfl
def Xd(b:List UInt8)(i:Nat):at8 b i<256:=by unfold at8;exact(b.getD i 0).toNat_lt
def Rk{w:World}{v:Value}{l:List UInt8}(h:XU w v l)(hl:0<l.length):∃g off cap,v = .slice (some ⟨g,off,none⟩) l.length cap∧l.length≤cap∧cap≤maxLen ∧
  ∀(j:Nat) (_:j<l.length),w.cell? ⟨g,off+j,none⟩=some (.int .u8 (at8 l j:Int)):=by
 obtain⟨g,off,cap,h1,h2,h3,h4⟩:=Al h hl;exact⟨g,off,cap,h1,h2,h3,fun j hj=>by rw[h4 j hj,at8_lt hj]⟩
def Gx(k n:Nat)(hn:n<256)(hk:2 ^ k<256):bits .and .u8 (n:Int) ((2 ^ k:Nat):Int)=((n/2 ^ k%2*2 ^ k:Nat):Int):=by
 rw[u8_and_nat n (2 ^ k) hn hk,nat_bit]
def jJ(n:Nat)(hn:n<256):bits .and .u8 (n:Int) 16=((n/16%2*16:Nat):Int):=Gx 4 n hn Zd
def and_32(n:Nat)(hn:n<256):bits .and .u8 (n:Int) 32=((n/32%2*32:Nat):Int):=Gx 5 n hn Zd
def and_64(n:Nat)(hn:n<256):bits .and .u8 (n:Int) 64=((n/64%2*64:Nat):Int):=Gx 6 n hn Zd
def rE(n:Nat)(hn:n<256):bits .and .u8 (n:Int) 128=((n/128%2*128:Nat):Int):=Gx 7 n hn Zd
def jI(n:Nat)(hn:n<256):bits .and .u8 (n:Int) 15=((n%16:Nat):Int):=by
 rw[show(15:Int)=((15:Nat):Int)from rfl,u8_and_nat n 15 hn Zd,nat_mask4]
def Ak(n:Nat)(hn:n<256):bits .and .u8 (n:Int) 31=((n%32:Nat):Int):=by
 rw[show(31:Int)=((31:Nat):Int)from rfl,u8_and_nat n 31 hn Zd,nat_mask5]
def eu(n:Nat)(hn:n<256):bits .and .u8 (n:Int) 127=((n%128:Nat):Int):=by
 rw[show(127:Int)=((127:Nat):Int)from rfl,u8_and_nat n 127 hn Zd,nat_mask7]
def and_3(n:Nat)(hn:n<256):bits .and .u8 (n:Int) 3=((n%4:Nat):Int):=by
 rw[show(3:Int)=((3:Nat):Int)from rfl,u8_and_nat n 3 hn Zd,nat_mask2]
def U7(b:List UInt8)(p q:Int)(k:Nat)(hk:q.toNat≤k):get b p q<256 ^ k:=by
 unfold get;split
 ·refine Od (BN _) (Nat.pow_le_pow_right Zd ?_);rw[SC];omega
 ·exact Nat.pow_pos Zd
def AA(n:Nat)(w:World)(hn:n<256) :
  Calls prog 173 #[.int .u8 (n:Int)] w fun e w'=>e = .returned (.bool (decide (192≤n∧n≤223)))∧w=w':=by
 by_cases h1:192≤n
 ·have HF:Hid (decide (192≤n∧n≤223)=decide ((n:Int)≤223)):=decide_eq_decide.2 Zo;have d1:decide ((192:Int)≤(n:Int))=true:=WV Zo;rw[HF.o];clear HF;go_enter func173,ntmps173;go_wp2;go_ret;exact⟨rfl,rfl⟩
 ·have HF:Hid (decide (192≤n∧n≤223)=false):=WH Zo;have d1:decide ((192:Int)≤(n:Int))=false:=WH Zo;rw[HF.o];clear HF;go_enter func173,ntmps173;go_wp2;go_ret;exact⟨rfl,rfl⟩
def uC(v:Value)(b:List UInt8)(p q:Int)(w:World)(hv:XU w v b) :
  Calls prog 153 #[v,.int .i64 p,.int .i64 q] w fun e w'=>e = .returned (.int .u64 (get b p q:Nat))∧w=w':=by
 have CG:=Zh (Nw v b p q w hv);clear hv;go_enter func153,ntmps153;go_wp2_with (go_at_call 155;refine CG.o.mono ?_;rintro e w' ⟨rfl,rfl⟩)
 go_ret;exact⟨rfl,rfl⟩
def DZ(v:Value)(b:List UInt8)(p:Nat)(w:World)(hv:XU w v b)(hb:0<b.length)(hp:p≤1000) :
  Calls prog 174 #[v,.int .i64 p] w fun e w'=>e = .returned (.tuple (Q7 ((Vf b p).1.1:Nat) ((Vf b p).1.2:Nat) (Vf b p).2))∧w=w':=by
 have hlen:=hv.len;have CG:=Zh (Nw v b ((p:Int)+2) 2 w hv);obtain⟨g,off,cap,rfl,_,_,hc⟩:=Rk hv hb;have d0:=hc 0 hb;have d0':w.cell? ⟨g,off,none⟩=some (.int .u8 (at8 b 0:Int)):=d0;have hx:=Xd b 0;have ha:=jJ (at8 b 0) hx;have HE:Hid (Vf b p=if at8 b 0/16%2=0 then((p,p),decide (p≤b.length))else((p+4,p+4+4*get b ((p:Int)+2) 2),within b.length ((p:Int)+2) 2&&decide (p+4+4*get b ((p:Int)+2) 2≤b.length))):=rfl;have hn:=U7 b ((p:Int)+2) 2 2 Zd;have hn:get b ((p:Int)+2) 2<65536:=hn;generalize Vf b p=X at *;generalize get b ((p:Int)+2) 2=n at *;clear hc hv;by_cases h0:at8 b 0/16%2=0
 ·have HF:Hid (X=((p,p),decide (p≤b.length))):=by show _=_;rw[HE.o,ZU h0]
  rw[h0]at ha;rw[HF.o];dsimp only at ha ⊢;clear HE HF h0 CG;generalize at8 b 0=x at *;go_enter func174,ntmps174;go_wp2
  go_ret3
  exact⟨rfl,rfl⟩
 ·have h1:at8 b 0/16%2=1:=by omega
  have HF:Hid (X=((p+4,p+4+4*n),within b.length ((p:Int)+2) 2&&decide ((p:Int)+4+4*(n:Int)≤(b.length:Int)))):=by
   show _=_;rw[HE.o,Z3 h0];congr 2;exact decide_eq_decide.2 Zo
  rw[h1]at ha;rw[HF.o];dsimp only at ha ⊢;clear HE HF h0 h1;generalize at8 b 0=x at *;cases hw:within b.length ((p:Int)+2) 2
  all_goals
   rw[hw]at CG;clear hw;go_enter func174,ntmps174;go_wp2_with (go_at_call 155;refine CG.o.mono ?_;rintro e w' ⟨rfl,rfl⟩)
   go_ret3
   exact⟨rfl,rfl⟩
def yI(v u:Value)(b r:List UInt8)(w:World)(hv:XU w v b)(hu:XU w u r)(hb:0<b.length) :
  Calls prog 175 #[v,u] w fun e w'=>e = .returned (.tuple (Jc ((Rp b r).1:Nat) (Rp b r).2))∧w=w':=by
 have hlen:=hv.len;have MF:=hu.len;obtain⟨g,off,cap,rfl,_,_,hc⟩:=Rk hv hb;have d0:w.cell? ⟨g,off,none⟩=some (.int .u8 (at8 b 0:Int)):=hc 0 hb;have hx:=Xd b 0;have ha:=and_32 (at8 b 0) hx;have HE:Hid (Rp b r=if at8 b 0/32%2=0 then(0,true)else if r.length=0 then(0,false)else if at8 r (r.length-1)=0∨r.length<at8 r (r.length-1)then(0,false)else if((r.drop (r.length-at8 r (r.length-1))).take (at8 r (r.length-1)-1)).all (fun x=>decide (x=0))then(at8 r (r.length-1),true)else(0,false)):=rfl;obtain⟨ua,uc,rfl,huc,-⟩:=id hu;have HU:=Zh hu;clear hc hv hu;generalize Rp b r=X at *;by_cases h0:at8 b 0/32%2=0
 ·have HF:Hid (X=(0,true)):=by show _=_;rw[HE.o,ZU h0]
  rw[h0]at ha;rw[HF.o];clear HE HF h0;generalize at8 b 0=x at *;go_enter func175,ntmps175;go_wp2
  go_ret2
  exact⟨rfl,rfl⟩
 ·have h1:at8 b 0/32%2=1:=by omega
  have DG:Hid (X=if r.length=0 then(0,false)else if at8 r (r.length-1)=0∨r.length<at8 r (r.length-1)then(0,false)else if((r.drop (r.length-at8 r (r.length-1))).take (at8 r (r.length-1)-1)).all (fun x=>decide (x=0))then(at8 r (r.length-1),true)else(0,false)):=by show _=_;rw[HE.o,Z3 h0]
  rw[h1]at ha;clear HE h0 h1;generalize at8 b 0=x at *;by_cases hr:r.length=0
  ·have HF:Hid (X=(0,false)):=by show _=_;rw[DG.o,ZU hr]
   rw[HF.o];rw[hr];clear DG HF HU;go_enter func175,ntmps175;go_wp2
   go_ret2
   exact⟨rfl,rfl⟩
  ·obtain⟨m,hm⟩:∃m,r.length=m+1:=⟨r.length-1,Zo⟩;obtain⟨g2,yD,cap2,e1,_,_,zJ⟩:=Rk HU.o Zo;cases e1;have dl:=zJ m Zo
   have HE3:Hid (X=if at8 r m=0∨r.length<at8 r m then(0,false)else if((r.drop (r.length-at8 r m)).take (at8 r m-1)).all (fun x=>decide (x=0))then(at8 r m,true)else(0,false)):=by
    show _=_;rw[DG.o,Z3 hr,show r.length-1=m by omega]
   have hk:=Xd r m;have HC:=Zh zJ;have hrl:((r.length:Nat):Int)=(m:Int)+1:=by omega
   have gZ:IntKind.i64.wrap ((m:Int)+1-1)=(m:Int):=by rw[show(m:Int)+1-1=(m:Int) by omega];exact SZ _ Zo
   clear DG hr zJ;generalize cf:at8 r m=k at *;by_cases YV:k=0∨r.length<k
   ·have HF:Hid (X=(0,false)):=by show _=_;rw[HE3.o,ZU YV]
    rw[HF.o];clear HE3 HF HU;rcases YV with rfl|YV
    all_goals
     go_enter func175,ntmps175;go_wp2
     go_ret2
     exact⟨rfl,rfl⟩
   ·have pE:1≤k:=by omega
    have AU:k≤r.length:=by omega
    have HU2:XG w (.slice (some ⟨g2,yD,none⟩) (m+1) uc) (m+1) (Re r):=by rw[←hm];exact HU.o
    obtain⟨a',Uf,ZW⟩:=VZ Vt (some ⟨g2,yD,none⟩) (m+1) uc (m+1-k) m Zo Zo Zo;have ZW:=ZW w (Re r) (by rw[Xa];omega) HU2;have e1:m-(m+1-k)=k-1:=by omega
    have e2:((m+1-k:Nat):Int)=(m:Int)+1-(k:Int):=by omega
    rw[Nat.mul_one,Nat.mul_one,e1,PN,Oh]at ZW;rw[e1,e2]at Uf;have hql:((r.drop (m+1-k)).take (k-1)).length=k-1:=by rw[SC,QG];omega
    have HF:Hid (X=if((r.drop (m+1-k)).take (k-1)).all (fun x=>decide (x=0))then(k,true)else(0,false)):=by show _=_;rw[HE3.o,Z3 YV,hm]
    have hkI:(1:Int)≤(k:Int):=by omega
    have hkI2:(k:Int)≤(m:Int)+1:=by omega
    have U0:=Zh ZW;have c1:decide ((m:Int)+1<(k:Int))=false:=WH Zo;have c0:((k:Int)==0)=false:=by rw[Wz];omega
    have MG:m+1≤9223372036854775807:=by omega
    rw[hm];clear HE3 YV ZW e1 e2 HC HU HU2 hrl gZ MF huc AU cf;generalize(r.drop (m+1-k)).take (k-1)=s at *;rw[←hql]at Uf U0;have hkm:k=s.length+1:=by omega
    have HKM:=Zh hkm;have hsb:s.length≤255:=by omega
    clear hql hkm hm;go_enter func175,ntmps175;go_wp2
    go_loop [42] (fun i=>∃j:Nat,j≤s.length∧i = .int .i64 j∧Hid ((s.take j).all (fun x=>decide (x=0))=true)) (fun i=>s.length-(intOf i).toNat)
    case atStart=>exact⟨0,Tv _,rfl,rfl⟩
    case round=>
     obtain⟨j,hj,rfl,Ut⟩:=hrel;by_cases hjs:j<s.length
     ·obtain⟨g3,off3,cap3,e3,_,_,pA⟩:=Al (l:=s) U0.o Zo;cases e3;have d:=pA j hjs
      have gJ:Hid ((s.take (j+1)).all (fun x=>decide (x=0))=decide (s[j]=0)):=by
       show _=_;rw[List.take_succ_eq_append_getElem hjs,List.all_append,Ut.o];simp
      have nM:Hid (s[j]≠0→s.all (fun x=>decide (x=0))=false):=fun h=>by
       rw[List.all_eq_false];exact⟨s[j],O6 hjs,by simpa using h⟩
      clear pA;generalize s[j]=x at *;by_cases PE:x=0
      ·have mY:Hid ((s.take (j+1)).all (fun x=>decide (x=0))=true):=by show _=_;rw[gJ.o,PE];rfl
       have hz:(x.toNat:Int)=0:=by rw[PE];rfl
       rw[hz]at d;clear hz PE gJ nM Ut HF;go_wp2
       go_round
       case rel=>exact⟨j+1,Zo,Zn,mY⟩
       case measure=>simp[intOf];omega
      ·have hq:((x.toNat:Int)!=0)=true:=by
        rw[Rs];intro e;exact PE (UInt8.toNat_inj.1 (by simpa using e))
       have HX:Hid (X=(0,false)):=by show _=_;rw[HF.o,nM.o PE];rfl
       clear HF nM gJ PE Ut;go_wp2
       go_ret2
       exact⟨by rw[HX.o];rfl,rfl⟩
     ·obtain rfl:j=s.length:=by omega
      have HX:Hid (X=(k,true)):=by
       show _=_;have:=Ut.o;rw[Ex Zo]at this;rw[HF.o,this];rfl
      clear HF Ut;go_wp2
      go_ret2
      exact⟨by rw[HX.o];rfl,rfl⟩
def eO(b:List UInt8)(p:Nat):(Vf b p).1.1≤p+4∧(Vf b p).1.2≤p+4+4*65535:=by
 have h:=U7 b ((p:Int)+2) 2 2 Zd;have h:get b ((p:Int)+2) 2<65536:=h;unfold Vf;split
 ·exact⟨by show p≤_;omega,by show p≤_;omega⟩
 ·exact⟨by show p+4≤_;omega,by show p+4+4*get b ((p:Int)+2) 2≤_;omega⟩
def eP{b:List UInt8}{p:Nat}(h:(Vf b p).2=true):(Vf b p).1.2≤b.length∧(Vf b p).1.1≤(Vf b p).1.2:=by
 unfold Vf at h ⊢;split
 ·rename_i h0
  rw[ZU h0]at h;exact⟨of_decide_eq_true h,Zq _⟩
 ·rename_i h0
  rw[Z3 h0,UN]at h;exact⟨of_decide_eq_true h.2,by show p+4≤p+4+_;omega⟩
def gj{b r:List UInt8}(h:(Rp b r).2=true):(Rp b r).1≤r.length:=by
 unfold Rp at h ⊢;by_cases h0:at8 b 0/32%2=0
 ·rw[ZU h0];exact Tv _
 rw[Z3 h0]at h ⊢;by_cases h1:r.length=0
 ·rw[ZU h1]at h;cases h
 rw[Z3 h1]at h ⊢;dsimp only at h ⊢;by_cases h2:at8 r (r.length-1)=0∨r.length<at8 r (r.length-1)
 ·rw[ZU h2]at h;cases h
 rw[Z3 h2]at h ⊢;split
 ·show at8 r (r.length-1)≤_;omega
 ·exact Tv _
def yA(v:Value)(b:List UInt8)(w:World)(hv:XU w v b) :
  Calls prog 152 #[v] w fun e w'=>e = .returned (.tuple (Qo (Qn ((looks b).1.1:Nat) ((looks b).1.2.1:Nat) ((looks b).1.2.2:Nat)) (looks b).2))∧Below w w w':=by
 have hlen:=hv.len;have HV:Hid (∀w',Below w w w'→XU w' v b):=fun w' h=>hv.below h
 have HE:Hid (looks b=if 512<b.length then((0,0,0),5)else if b.length<12 then((0,0,0),2)else if at8 b 0/64≠2 then((0,0,0),1)else if 192≤at8 b 1∧at8 b 1≤223 then((0,0,0),4)else if(Vf b (12+4*(at8 b 0%16))).2=false then((0,0,0),2)else if(Rp b (b.drop (Vf b (12+4*(at8 b 0%16))).1.2)).2=false then((0,0,0),1)else(((Vf b (12+4*(at8 b 0%16))).1.1,(Vf b (12+4*(at8 b 0%16))).1.2,b.length-(Rp b (b.drop (Vf b (12+4*(at8 b 0%16))).1.2)).1),0)):=rfl;obtain⟨a,c,rfl,Rt,-⟩:=id hv;clear hv;generalize looks b=X at *;by_cases h1:512<b.length
 ·obtain rfl:X=((0,0,0),5):=by rw[HE.o,ZU h1]
  clear HE HV;go_enter func152,ntmps152;go_wp2;exact Vr (v:= .tuple (Qo (Qn 0 0 0) 5)) (by simp[results,results152,go_sem]) rfl ⟨rfl,Z' _ _⟩
 by_cases h2:b.length<12
 ·obtain rfl:X=((0,0,0),2):=by rw[HE.o,Z3 h1,ZU h2]
  clear HE HV;go_enter func152,ntmps152;go_wp2;exact bt
 have PE:=Xd b 0;have Sg:=Xd b 1;have T6:=Z' w (.cells (Qn 0 0 0) 238);have G5:=Zh (HV.o _ T6);obtain⟨g,off,cap,e1,_,_,hc⟩:=Rk (HV.o w (YE _ _)) Zo;cases e1;obtain⟨_,_,_,e2,_,_,hca⟩:=Rk G5.o Zo;cases e2;have d0:(w.alloc (.cells (Qn 0 0 0) 238)).cell? ⟨g,off,none⟩=some (.int .u8 (at8 b 0:Int)):=hca 0 Zo;have d1:=hca 1 Zo;have R7:=Zh T6;clear hc hca T6;have l1:decide ((512:Int)<(b.length:Int))=false:=WH Zo;have l2:decide ((b.length:Int)<12)=false:=WH Zo;by_cases h3:at8 b 0/64≠2
 ·obtain rfl:X=((0,0,0),1):=by rw[HE.o,Z3 h1,Z3 h2,ZU h3]
  have q:(((at8 b 0:Nat):Int)/64 !=2)=true:=by rw[Rs];omega
  clear HE HV h3;go_enter func152,ntmps152;go_wp2;exact bu
 have q3:(((at8 b 0:Nat):Int)/64 !=2)=false:=by rw[bne_eq_false_iff_eq];omega
 have CF:=AA (at8 b 1) (w.alloc (.cells (Qn 0 0 0) 238)) Sg;by_cases h4:192≤at8 b 1∧at8 b 1≤223
 ·obtain rfl:X=((0,0,0),4):=by rw[HE.o,Z3 h1,Z3 h2,Z3 h3,ZU h4]
  rw[WV h4]at CF;have HCF:=Zh CF;clear HE HV h3 h4 CF;go_enter func152,ntmps152;go_wp2_with (go_at_call 173;refine HCF.o.mono ?_;rintro e w' ⟨rfl,rfl⟩)
  exact Vr (v:= .tuple (Qo (Qn 0 0 0) 4)) (by simp[results,results152,go_sem]) rfl ⟨rfl,Z' _ _⟩
 rw[WH h4]at CF;have HCF:=Zh CF;have ha:=jI (at8 b 0) PE;have hk16:at8 b 0%16<16:=by omega
 have cW:Hid (X=if(Vf b (12+4*(at8 b 0%16))).2=false then((0,0,0),2)else if(Rp b (b.drop (Vf b (12+4*(at8 b 0%16))).1.2)).2=false then((0,0,0),1)else(((Vf b (12+4*(at8 b 0%16))).1.1,(Vf b (12+4*(at8 b 0%16))).1.2,b.length-(Rp b (b.drop (Vf b (12+4*(at8 b 0%16))).1.2)).1),0)):=by
  show _=_;rw[HE.o,Z3 h1,Z3 h2,Z3 h3,Z3 h4]
 have CE:=DZ _ b (12+4*(at8 b 0%16)) _ G5.o Zo Zo;have hle:=eO b (12+4*(at8 b 0%16));have Pg:Hid ((Vf b (12+4*(at8 b 0%16))).2=true→(Vf b (12+4*(at8 b 0%16))).1.2≤b.length∧(Vf b (12+4*(at8 b 0%16))).1.1≤(Vf b (12+4*(at8 b 0%16))).1.2):=eP;rw[show((12+4*(at8 b 0%16):Nat):Int)=12+4*((at8 b 0%16:Nat):Int) by omega]at CE;clear HE h3 h4 CF;generalize Vf b (12+4*(at8 b 0%16))=E at *;generalize at8 b 0%16=k at *;obtain⟨⟨xe,xf⟩,xo⟩:=E;dsimp only at *;have HCE:=Zh CE;clear CE;cases xo
 ·obtain rfl:X=((0,0,0),2):=by rw[cW.o,ZU rfl]
  clear cW HV Pg;go_enter func152,ntmps152;go_wp2_with (first|(go_at_call 173;refine HCF.o.mono ?_;rintro e w' ⟨rfl,rfl⟩)|(go_at_call 174;refine HCE.o.mono ?_;rintro e w' ⟨rfl,rfl⟩))
  exact bt
 obtain⟨hf1,tT⟩:=Pg.o rfl;obtain⟨a',Uf,-,ZW⟩:=Sk Vt (some ⟨g,off,none⟩) b.length c xf hf1 Rt;have ZW:=ZW _ (Re b) (by rw[Xa];omega) G5.o;rw[Nat.mul_one,PN]at ZW;have rQ:(b.drop xf).length=b.length-xf:=QG;rw[←rQ]at ZW Uf;have CP:=yI _ _ b (b.drop xf) _ G5.o ZW Zo;have sP:Hid ((Rp b (b.drop xf)).2=true→(Rp b (b.drop xf)).1≤(b.drop xf).length):=gj;have HE6:Hid (X=if(Rp b (b.drop xf)).2=false then((0,0,0),1)else((xe,xf,b.length-(Rp b (b.drop xf)).1),0)):=by show _=_;rw[cW.o,Z3 Zd]
 have HCP:=Zh CP;have hdl2:(b.drop xf).length≤b.length:=by omega
 clear cW Pg ZW CP rQ;generalize Rp b (b.drop xf)=Y at *;generalize(b.drop xf).length=dl at *;obtain⟨yn,yo⟩:=Y;dsimp only at *;cases yo
 ·obtain rfl:X=((0,0,0),1):=by rw[HE6.o,ZU rfl]
  clear HE6 HV sP;go_enter func152,ntmps152;go_wp2_with (first|(go_at_call 173;refine HCF.o.mono ?_;rintro e w' ⟨rfl,rfl⟩)|(go_at_call 174;refine HCE.o.mono ?_;rintro e w' ⟨rfl,rfl⟩)|(go_at_call 175;refine HCP.o.mono ?_;rintro e w' ⟨rfl,rfl⟩))
  exact bu
 have hyl:=sP.o rfl;obtain rfl:X=((xe,xf,b.length-yn),0):=by rw[HE6.o,Z3 Zd]
 dsimp only;rw[show((b.length-yn:Nat):Int)=(b.length:Int)-(yn:Int) by omega];have hyn:(yn:Int)≤(b.length:Int):=by omega
 clear HE6 HV sP;go_enter func152,ntmps152;go_wp2_with (first|(go_at_call 173;refine HCF.o.mono ?_;rintro e w' ⟨rfl,rfl⟩)|(go_at_call 174;refine HCE.o.mono ?_;rintro e w' ⟨rfl,rfl⟩)|(go_at_call 175;refine HCP.o.mono ?_;rintro e w' ⟨rfl,rfl⟩))
 exact Vr (v:= .tuple (Qo (Qn xe xf ((b.length:Int)-(yn:Int))) 0)) (by simp[results,results152,go_sem]) rfl ⟨rfl,Z' _ _⟩
structure nJ where
 Yi:Int
 lost:Int
 total:Int
 high:Int
 jitter:Int
 last:Int
 delay:Int
structure Rc where
 kind:Int
 Yi:Int
 Ez:Int
 time:Int
 Wm:Int
 octets:Int
 blocks:List nJ
 gone:List Int
 XS:Int
 Xm:List (Int×Int)
def XJ:Rc:=⟨0,0,0,0,0,0,[],[],0,[]⟩
def Ns(b:List UInt8)(p:Nat):nJ:=⟨get b p 4,get b (p+4:Nat) 1,get b (p+5:Nat) 3,get b (p+8:Nat) 4,get b (p+12:Nat) 4,get b (p+16:Nat) 4,get b (p+20:Nat) 4⟩
def UB(k n:Nat):Nat:=8+24*n+if k=200 then 20 else 0
def right(b:List UInt8):Nat×Int:=
 if b.length<4 then(0,2)
 else if at8 b 0/32≠4 then(0,1)
 else if at8 b 1≠200∧at8 b 1≠201 then(0,4)
 else if 15<at8 b 0%32∨(get b 2 2+1)*4≠UB (at8 b 1) (at8 b 0%32)then(0,1)
 else if b.length<UB (at8 b 1) (at8 b 0%32)then(0,2)
 else(UB (at8 b 1) (at8 b 0%32),0)
def report(b:List UInt8):Rc where
 kind:=at8 b 1
 Yi:=get b 4 4
 Ez:=if at8 b 1=200 then(get b 8 8:Int)else 0
 time:=if at8 b 1=200 then(get b 16 4:Int)else 0
 Wm:=if at8 b 1=200 then(get b 20 4:Int)else 0
 octets:=if at8 b 1=200 then(get b 24 4:Int)else 0
 blocks:=(List.range (at8 b 0%32)).map fun(i:Nat)=>Ns b ((if at8 b 1=200 then 28 else 8)+24*i)
 gone:=[]
 XS:=0
 Xm:=[]
def XP(b:List UInt8):(Rc×Nat)×Int:=if(right b).2≠0 then((XJ,0),(right b).2)else((report b,(right b).1),0)
def Xk(b:List UInt8):Nat×Bool:=
 if at8 b 1=200∨at8 b 1=201∨at8 b 1=203 then(at8 b 1,true)
 else if at8 b 1=205∨at8 b 1=206 then(at8 b 1,decide (at8 b 0%32=1))else(0,false)
def Xz(b:List UInt8)(k:Nat):Nat×Bool:=
 let n:=(get b 2 2+1)*4
 if k=203 then(n,decide (1≤at8 b 0%32)&&decide (at8 b 0%32≤15)&&decide (n=4+4*(at8 b 0%32)))
 else if k=205 then(n,decide (16≤n)&&decide (n≤76))else(n,decide (n=12))
def XL(b:List UInt8)(p:Nat):List Nat:=(List.range ((b.length-p)/4)).map fun(i:Nat)=>get b (p+4*i:Nat) 4
def parts(b:List UInt8)(k:Nat):Rc:=
 if k=203 then{XJ with kind:=203,gone:=(XL b 4).map fun(n:Nat)=>(n:Int)}
 else{XJ with kind:=k,Yi:=get b 4 4,XS:=get b 8 4,Xm:=(XL b 12).map fun(n:Nat)=>(((n/65536:Nat):Int),((n%65536:Nat):Int))}
def YX(b:List UInt8):(Rc×Nat)×Int:=
 if b.length<4 then((XJ,0),2)
 else if at8 b 0/32≠4 then((XJ,0),1)
 else if(Xk b).2=false then((XJ,0),4)
 else if(Xk b).1=200∨(Xk b).1=201 then XP b
 else
  let n:=Xz b (Xk b).1
  if n.2=false then((XJ,0),1)
  else if b.length<n.1 then((XJ,0),2)
  else((parts (b.take n.1) (Xk b).1,n.1),0)
def Yw:Nat→List UInt8→List Rc×Int
 | 0,_=>([],3)
 | k+1,b=>
  if(YX b).2≠0 then([],(YX b).2)
  else if b.length-(YX b).1.2=0 then([(YX b).1.1],0)
  else
   let r:=Yw k (b.drop (YX b).1.2)
   if r.2≠0 then([],r.2)else((YX b).1.1 :: r.1,0)
def Yl(b:List UInt8):List Rc×Int:=if 512<b.length then([],5)else Yw 8 b
inductive Ev
 | none
 | XS (p:JR) (d:Eu)
 | X4 (l:List Rc)
def XX(b:List UInt8):Ev×Int:=
 if 512<b.length then(.none,5)
 else if b.length<2 then(.none,2)
 else if 192≤at8 b 1∧at8 b 1≤223 then(if(Yl b).2≠0 then(.none,(Yl b).2)else(.X4 (Yl b).1,0))
 else if(YH b).2≠0 then(.none,(YH b).2)
 else if(Yu (YH b).1.Zz).2≠0 then(.none,(Yu (YH b).1.Zz).2)
 else(.XS (YH b).1 (Yu (YH b).1.Zz).1,0)
def Og{B:Nat}{a w:World}(h:Below B a w):∀q,Below B a (w.drewN q)
 | 0=>h
 | q+1=>(Og h q).drew
def pX(k:Int)(w:World):Calls prog 191 #[.int .i64 k] w fun e w'=>e = .returned (.bool (decide (k=200∨k=201)))∧w=w':=by
 by_cases h0:k=200
 ·subst h0;go_enter func191,ntmps191;go_wp2;go_ret;exact⟨rfl,rfl⟩
 ·by_cases h1:k=201
  ·subst h1;go_enter func191,ntmps191;go_wp2;go_ret;exact⟨rfl,rfl⟩
  ·have HF:Hid (decide (k=200∨k=201)=false):=WH Zo;have b0:(k==200)=false:=by rw[Wz];exact h0
   have b1:(k==201)=false:=by rw[Wz];exact h1
   rw[HF.o];clear HF h0 h1;go_enter func191,ntmps191;go_wp2;go_ret;exact⟨rfl,rfl⟩
def qD(k n:Nat)(w:World)(hn:n≤1000):Calls prog 192 (Q5 (k:Int) (n:Int)) w fun e w'=>e = .returned (.int .i64 (UB k n:Nat))∧w=w':=by
 by_cases h0:k=200
 ·subst h0;have HF:Hid (((UB 200 n:Nat):Int)=8+24*(n:Int)+20):=by show _=_;unfold UB;rw[ZU rfl];omega
  rw[HF.o];clear HF;go_enter func192,ntmps192;go_wp2;go_ret;exact⟨rfl,rfl⟩
 ·have HF:Hid (((UB k n:Nat):Int)=8+24*(n:Int)):=by show _=_;unfold UB;rw[Z3 h0];omega
  have b0:((k:Int)==200)=false:=by rw[Wz];omega
  rw[HF.o];clear HF h0;go_enter func192,ntmps192;go_wp2;go_ret;exact⟨rfl,rfl⟩
def Ol(k n:Nat):Nat:=if k=203 then 4+4*n else if k=205 then 12+4*n else 12
def Me(k n:Nat)(w:World)(hn:n≤1000):Calls prog 182 (Q5 (k:Int) (n:Int)) w fun e w'=>e = .returned (.int .i64 (Ol k n:Nat))∧w=w':=by
 by_cases h0:k=203
 ·subst h0;have HF:Hid (((Ol 203 n:Nat):Int)=4+4*(n:Int)):=by show _=_;unfold Ol;rw[ZU rfl];omega
  rw[HF.o];clear HF;go_enter func182,ntmps182;go_wp2;go_ret;exact⟨rfl,rfl⟩
 ·have b0:((k:Int)==203)=false:=by rw[Wz];omega
  by_cases h1:k=205
  ·subst h1;have HF:Hid (((Ol 205 n:Nat):Int)=12+4*(n:Int)):=by show _=_;unfold Ol;rw[Z3 Zd,ZU rfl];omega
   rw[HF.o];clear HF;go_enter func182,ntmps182;go_wp2;go_ret;exact⟨rfl,rfl⟩
  ·have HF:Hid (((Ol k n:Nat):Int)=12):=by show _=_;unfold Ol;rw[Z3 h0,Z3 h1];rfl
   have b1:((k:Int)==205)=false:=by rw[Wz];omega
   rw[HF.o];clear HF h0 h1;go_enter func182,ntmps182;go_wp2;go_ret;exact⟨rfl,rfl⟩
def Pm(v:Value)(b:List UInt8)(p:Int)(w:World)(hv:XU w v b) :
  Calls prog 183 #[v,.int .i64 p] w fun e w'=>e = .returned (.int .u32 (get b p 4:Nat))∧w=w':=by
 have CG:=Zh (Nw v b p 4 w hv);have hn:get b p 4<4294967296:=U7 b p 4 4 Zd;clear hv;generalize get b p 4=n at *;go_enter func183,ntmps183;go_wp2_with (go_at_call 155;refine CG.o.mono ?_;rintro e w' ⟨rfl,rfl⟩)
 go_ret;exact⟨rfl,rfl⟩
def pQ(v:Value)(b:List UInt8)(w:World)(hv:XU w v b)(hb:2≤b.length) :
  Calls prog 169 #[v] w fun e w'=>e = .returned (.tuple (Jc ((Xk b).1:Nat) (Xk b).2))∧Below w w w':=by
 have hlen:=hv.len;have HE:Hid (Xk b=if at8 b 1=200∨at8 b 1=201∨at8 b 1=203 then(at8 b 1,true)else if at8 b 1=205∨at8 b 1=206 then(at8 b 1,decide (at8 b 0%32=1))else(0,false)):=rfl;obtain⟨g,off,cap,rfl,_,_,hc⟩:=Rk hv Zo;have d0:w.cell? ⟨g,off,none⟩=some (.int .u8 (at8 b 0:Int)):=hc 0 Zo;have d1:=hc 1 Zo;have ha:=Ak (at8 b 0) (Xd b 0);have Sg:=Xd b 1;have Xp:=YE w w;clear hc hv;generalize Xk b=X at *;generalize at8 b 0%32=m at *;generalize at8 b 1=k at *;by_cases h1:k=200∨k=201∨k=203
 ·obtain rfl:X=(k,true):=by rw[HE.o,ZU h1]
  clear HE;rcases h1 with rfl|rfl|rfl
  all_goals
   go_enter func169,ntmps169;go_wp2
   go_ret2
   exact⟨rfl,Xp⟩
 ·by_cases h2:k=205∨k=206
  ·obtain rfl:X=(k,decide (m=1)):=by rw[HE.o,Z3 h1,ZU h2]
   clear HE h1;have HM:Hid (decide (m=1)=((m:Int)==1)):=by show _=_;rw[Bool.eq_iff_iff];simp;omega
   dsimp only;rw[HM.o];rcases h2 with rfl|rfl
   all_goals
    go_enter func169,ntmps169;go_wp2;go_quiet (fail)
    go_wp2
    go_ret2
    exact⟨rfl,Og Xp _⟩
  ·obtain rfl:X=(0,false):=by rw[HE.o,Z3 h1,Z3 h2]
   have b0:((k:Int)==200)=false:=by rw[Wz];omega
   have b1:((k:Int)==201)=false:=by rw[Wz];omega
   have b3:((k:Int)==203)=false:=by rw[Wz];omega
   have b5:((k:Int)==205)=false:=by rw[Wz];omega
   have b6:((k:Int)==206)=false:=by rw[Wz];omega
   clear HE h1 h2;go_enter func169,ntmps169;go_wp2
   go_ret2
   exact⟨rfl,Xp⟩
def Dp(v:Value)(b:List UInt8)(w:World)(hv:XU w v b) :
  Calls prog 179 #[v] w fun e w'=>e = .returned (.tuple (Q5 ((right b).1:Nat) (right b).2))∧Below w w w':=by
 have hlen:=hv.len;have HE:Hid (right b=if b.length<4 then(0,2)else if at8 b 0/32≠4 then(0,1)else if at8 b 1≠200∧at8 b 1≠201 then(0,4)else if 15<at8 b 0%32∨(get b 2 2+1)*4≠UB (at8 b 1) (at8 b 0%32)then(0,1)else if b.length<UB (at8 b 1) (at8 b 0%32)then(0,2)else(UB (at8 b 1) (at8 b 0%32),0)):=rfl;have CG:=Nw v b 2 2 w hv;obtain⟨a,c,rfl,Rt,-⟩:=id hv;have Xp:=YE w w;generalize right b=X at *;by_cases h1:b.length<4
 ·obtain rfl:X=(0,2):=by rw[HE.o,ZU h1]
  clear HE CG hv;go_enter func179,ntmps179;go_wp2
  go_ret2
  exact⟨rfl,Xp⟩
 obtain⟨g,off,cap,e1,_,_,hc⟩:=Rk hv Zo;cases e1;have d0:w.cell? ⟨g,off,none⟩=some (.int .u8 (at8 b 0:Int)):=hc 0 Zo;have d1:=hc 1 Zo;have PE:=Xd b 0;have Sg:=Xd b 1;have ha:=Ak (at8 b 0) PE;have hn:get b 2 2<65536:=U7 b 2 2 2 Zd;have l1:decide ((b.length:Int)<4)=false:=WH Zo;have mV:=Zh CG;clear hc hv CG;by_cases h2:at8 b 0/32≠4
 ·obtain rfl:X=(0,1):=by rw[HE.o,Z3 h1,ZU h2]
  have q:(((at8 b 0:Nat):Int)/32 !=4)=true:=by rw[Rs];omega
  clear HE h2;go_enter func179,ntmps179;go_wp2
  go_ret2
  exact⟨rfl,Xp⟩
 have q2:(((at8 b 0:Nat):Int)/32 !=4)=false:=by rw[bne_eq_false_iff_eq];omega
 have CK:=pX (at8 b 1:Nat) w;by_cases h3:at8 b 1≠200∧at8 b 1≠201
 ·obtain rfl:X=(0,4):=by rw[HE.o,Z3 h1,Z3 h2,ZU h3]
  rw[WH (show¬(((at8 b 1:Nat):Int)=200∨((at8 b 1:Nat):Int)=201) by omega)]at CK;have HCK:=Zh CK;clear HE h2 h3 CK;go_enter func179,ntmps179;go_wp2_with (go_at_call 191;refine HCK.o.mono ?_;rintro e w' ⟨rfl,rfl⟩)
  go_ret2
  exact⟨rfl,Xp⟩
 rw[WV (show(((at8 b 1:Nat):Int)=200∨((at8 b 1:Nat):Int)=201) by omega)]at CK;have HCK:=Zh CK;have CS:Hid (∀w,Calls prog 192 (Q5 ((at8 b 1:Nat):Int) ((at8 b 0%32:Nat):Int)) w fun e w'=>e = .returned (.int .i64 (UB (at8 b 1) (at8 b 0%32):Nat))∧w=w'):=fun w=>qD _ _ w Zo
 have Ty:UB (at8 b 1) (at8 b 0%32)≤1000:=by unfold UB;split <;> omega
 have hm:at8 b 0%32<32:=by omega
 have HE4:Hid (X=if 15<at8 b 0%32∨(get b 2 2+1)*4≠UB (at8 b 1) (at8 b 0%32)then(0,1)else if b.length<UB (at8 b 1) (at8 b 0%32)then(0,2)else(UB (at8 b 1) (at8 b 0%32),0)):=by show _=_;rw[HE.o,Z3 h1,Z3 h2,Z3 h3]
 clear HE h2 h3 CK;generalize UB (at8 b 1) (at8 b 0%32)=z at *;generalize at8 b 0%32=m at *;generalize get b 2 2=n at *;by_cases h4:15<m∨(n+1)*4≠z
 ·obtain rfl:X=(0,1):=by rw[HE4.o,ZU h4]
  clear HE4;by_cases h5:15<m
  ·have q5:decide ((15:Int)<(m:Int))=true:=WV Zo;clear h4;exact dX
  ·have q5:decide ((15:Int)<(m:Int))=false:=WH Zo;have q6:(((n:Int)+1)*4 !=(z:Int))=true:=by rw[Rs];omega
   clear h4;exact dX
 ·have q5:decide ((15:Int)<(m:Int))=false:=WH Zo;have q6:(((n:Int)+1)*4 !=(z:Int))=false:=by rw[bne_eq_false_iff_eq];omega
  have cW:Hid (X=if b.length<z then(0,2)else(z,0)):=by show _=_;rw[HE4.o,Z3 h4]
  clear HE4 h4;by_cases h5:b.length<z
  ·obtain rfl:X=(0,2):=by rw[cW.o,ZU h5]
   have q7:decide ((b.length:Int)<(z:Int))=true:=WV Zo;clear cW;exact dX
  ·obtain rfl:X=(z,0):=by rw[cW.o,Z3 h5]
   have q7:decide ((b.length:Int)<(z:Int))=false:=WH Zo;clear cW;exact dX
def K8(v:Value)(l:List UInt8)(w:World)(hv:XU w v l)(hl:l.length≤1000000) :
  Calls prog 154 #[v] w fun e w'=>(∃v',e = .returned v'∧Row w' 5 v' l.length (Re l))∧Below w w w':=by
 obtain⟨a,cap,rfl,Sg,Nv,SA,K7⟩:=id hv;have HV:=Zh hv;have HN:=Zh SA;clear hv K7 Sg Nv SA;cases a with
 | none=>
  obtain⟨h1,h2⟩:=HN.o rfl;have HL:Hid (l=[]):=BK h1;have he:=fun w=>Lib.run_eql_slice_nil (P:=prog) w 30 5 none l.length cap 0 0 underlying30
  clear h1 h2;go_enter func154,ntmps154;go_wp2;go_ret;exact⟨⟨_,rfl,by rw[HL.o];exact Row.nil _ _⟩,YE _ _⟩
 | some a=>
  have he:=fun w=>Lib.run_eql_slice_nil (P:=prog) w 30 5 (some a) l.length cap 0 0 underlying30
  clear HN;go_enter func154,ntmps154;go_wp2_with (at_builtin;refine Py rfl (.tmp 5) (.tmp 6) 30 rfl w Vt _ 0 [] rfl (Sh w 5 1) _ l.length (Re l) rfl (HV.o.below (Z' _ _)) (by rw[Xa];omega) (Ap l) Zo Zo Zi (fun v' w1 HO HG=>?_))
  go_ret
  have hb:=((Fr.refl w Pj w).alloc (Zq _) (.cells #[] 5)).grown HG.o Zi (by
   intro k hk;have hk:some w.heap.size=some k:=hk;cases hk
   exact Zq _)
  refine⟨⟨_,rfl,?_⟩,hb.below⟩;have:=Row.Z4 HO.o
  rwa[PA,IC]at this
def Tq(w:World)(k:Nat)(v:Value)(p:Nat):Prop:=w.heap[k]?=some (.cells #[v,.int .i64 (p:Int)] 264)
def Tq.lt{w:World}{k:Nat}{v:Value}{p:Nat}(h:Tq w k v p):k<w.heap.size:=by
 rcases Nat.lt_or_ge k w with h1|h1
 ·exact h1
 ·unfold Tq at h;rw[DT h1]at h;cases h
def Tq.cells{w:World}{k:Nat}{v:Value}{p:Nat}(h:Tq w k v p):w.cell? ⟨k,0,none⟩=some v∧w.cell? ⟨k,1,none⟩=some (.int .i64 (p:Int))∧w.frozen? ⟨k,1,none⟩=false:=by
 unfold Tq at h;refine⟨?_,?_,?_⟩
 ·simp only[World.cell?,h];rfl
 ·simp only[World.cell?,h];rfl
 ·simp[World.frozen?,h]
def Tq.set{w:World}{k:Nat}{v:Value}{p:Nat}(h:Tq w k v p)(q:Nat):Tq (w.setCell ⟨k,1,none⟩ (.int .i64 (q:Int))) k v q:=by
 unfold Tq at h ⊢;simp[World.setCell,Array.getElem?_modify,h]
def heap_drewN(w:World):∀n,(w.drewN n).heap=w.heap
 | 0=>rfl
 | n+1=>heap_drewN w n
def E7(k:Nat)(v:Value)(b:List UInt8)(p q:Nat)(w:World)(hE:Tq w k v p)(hv:XU w v b)(hp:p≤100000)(hq:q≤100) :
  Calls prog 181 (Qk (some ⟨k,0,none⟩) (q:Int)) w fun e w'=>e = .returned (.int .u64 (get b p q:Nat))∧Tq w' k v (p+q)∧Fr w (· = k) w w':=by
 have CG:Hid (∀n,Calls prog 155 #[v,.int .i64 (p:Int),.int .i64 (q:Int)] (w.drewN n) fun e w'=>e = .returned (.tuple (Jo (get b p q:Nat) (within b.length p q)))∧w'=w.drewN n):=
  fun n=>(Nw v b p q (w.drewN n) (hv.below (Og (YE _ _) n))).mono fun _ _ h=>⟨h.1,h.2.symm⟩
 obtain⟨c0,c1,f1⟩:=hE.cells;have HE:=Zh hE;clear hv hE;generalize get b p q=n at *;generalize within b.length p q=x at *;go_enter func181,ntmps181;go_wp2;go_quiet ((go_at_call 155;exact Calls.quiet_of_same (CG.o _)))
 go_wp2;go_ret;refine⟨rfl,?_,?_⟩
 ·refine Tq.set (p:=p) ?_ (p+q);unfold Tq;rw[heap_drewN];exact HE.o
 ·exact(Fr.Z8 _ (Og (YE _ _) _)).setAt 1 _
def II(k:Nat)(v:Value)(b:List UInt8)(p:Nat)(w:World)(hE:Tq w k v p)(hv:XU w v b)(hp:p≤100000) :
  Calls prog 180 #[.pointer (some ⟨k,0,none⟩)] w fun e w'=>e = .returned (.int .u32 (get b p 4:Nat))∧Tq w' k v (p+4)∧Fr w (· = k) w w':=by
 have CG:=Zh (E7 k v b p 4 w hE hv hp Zo);have hn:get b p 4<4294967296:=U7 b p 4 4 Zd;clear hv hE;have CG:Hid (Calls prog 181 (Qk (some ⟨k,0,none⟩) 4) w fun e w'=>e = .returned (.int .u64 (get b p 4:Nat))∧Tq w' k v (p+4)∧Fr w (· = k) w w'):=CG.o;generalize get b p 4=n at *;go_enter func180,ntmps180;go_wp2_with (go_at_call 181;refine CG.o.mono ?_;rintro e w' ⟨rfl,he,hf⟩)
 go_ret;exact⟨rfl,he,hf⟩
def yi(v:Value)(b:List UInt8)(k:Nat)(w:World)(hv:XU w v b)(hb:4≤b.length) :
  Calls prog 171 #[v,.int .i64 (k:Int)] w fun e w'=>e = .returned (.tuple (Jc ((Xz b k).1:Nat) (Xz b k).2))∧w=w':=by
 have hlen:=hv.len;have CG:=Zh (Nw v b 2 2 w hv);have hn:get b 2 2<65536:=U7 b 2 2 2 Zd;obtain⟨g,off,cap,rfl,_,_,hc⟩:=Rk hv Zo;have d0:w.cell? ⟨g,off,none⟩=some (.int .u8 (at8 b 0:Int)):=hc 0 Zo;have ha:=Ak (at8 b 0) (Xd b 0);have hm:at8 b 0%32<32:=by omega
 have HE:Hid (Xz b k=if k=203 then((get b 2 2+1)*4,decide (1≤at8 b 0%32)&&decide (at8 b 0%32≤15)&&decide ((get b 2 2+1)*4=4+4*(at8 b 0%32)))else if k=205 then((get b 2 2+1)*4,decide (16≤(get b 2 2+1)*4)&&decide ((get b 2 2+1)*4≤76))else((get b 2 2+1)*4,decide ((get b 2 2+1)*4=12))):=rfl;have Tx:∀n,Ol 203 n=4+4*n:=fun n=>by unfold Ol;rw[ZU rfl]
 clear hc hv;generalize Xz b k=X at *;generalize at8 b 0%32=m at *;generalize get b 2 2=n at *;have en:(((n+1)*4:Nat):Int)=((n:Int)+1)*4:=by omega
 by_cases h0:k=203
 ·subst h0;have CZ:=Me 203 m w Zo;rw[Tx,show((4+4*m:Nat):Int)=4+4*(m:Int) by omega]at CZ;have HCZ:=Zh CZ;have HF:Hid (X=((n+1)*4,decide (1≤m)&&decide (m≤15)&&decide ((n+1)*4=4+4*m))):=by show _=_;rw[HE.o,ZU rfl]
  clear HE CZ Tx;by_cases h1:1≤m
  ·have q1:decide ((1:Int)≤(m:Int))=true:=WV Zo;by_cases h2:m≤15
   ·have q2:decide ((m:Int)≤15)=true:=WV Zo
    have HX:Hid (X=((n+1)*4,(((n:Int)+1)*4==4+4*(m:Int)))):=by
     show _=_;rw[HF.o,WV h1,WV h2];simp only[Bool.true_and];congr 1
     rw[Bool.eq_iff_iff,Su,beq_iff_eq];omega
    rw[HX.o];dsimp only;rw[en];clear HF HX h1 h2 en;exact aL
   ·have q2:decide ((m:Int)≤15)=false:=WH Zo;have HX:Hid (X=((n+1)*4,false)):=by show _=_;rw[HF.o,WH h2];simp
    rw[HX.o];dsimp only;rw[en];clear HF HX h1 h2 en HCZ;exact bj
  ·have q1:decide ((1:Int)≤(m:Int))=false:=WH Zo;have HX:Hid (X=((n+1)*4,false)):=by show _=_;rw[HF.o,WH h1];simp
   rw[HX.o];dsimp only;rw[en];clear HF HX h1 en HCZ;exact bj
 ·have b0:((k:Int)==203)=false:=by rw[Wz];omega
  by_cases h1:k=205
  ·subst h1;have C1:=Me 205 1 w Zo;have C2:=Me 205 16 w Zo;rw[show Ol 205 1=16 from rfl]at C1;rw[show Ol 205 16=76 from rfl]at C2;have Gt:=Zh C1;have Gu:=Zh C2;have HF:Hid (X=((n+1)*4,decide (16≤(n+1)*4)&&decide ((n+1)*4≤76))):=by show _=_;rw[HE.o,Z3 Zd,ZU rfl]
   clear HE C1 C2 Tx;by_cases h2:16≤(n+1)*4
   ·have q1:decide ((16:Int)≤((n:Int)+1)*4)=true:=WV Zo
    have HX:Hid (X=((n+1)*4,decide (((n:Int)+1)*4≤76))):=by
     show _=_;rw[HF.o,WV h2];simp only[Bool.true_and];congr 1;exact decide_eq_decide.2 Zo
    rw[HX.o];dsimp only;rw[en];clear HF HX h2 en;go_enter func171,ntmps171;go_wp2_with fail
    refine CG.o.mono ?_;rintro e w' ⟨rfl,rfl⟩;go_wp2_with fail
    refine Gt.o.mono ?_;rintro e w' ⟨rfl,rfl⟩;go_wp2_with fail
    refine Gu.o.mono ?_;rintro e w' ⟨rfl,rfl⟩;go_wp2_with fail
    go_ret2
    exact⟨rfl,rfl⟩
   ·have q1:decide ((16:Int)≤((n:Int)+1)*4)=false:=WH Zo;have HX:Hid (X=((n+1)*4,false)):=by show _=_;rw[HF.o,WH h2];simp
    rw[HX.o];dsimp only;rw[en];clear HF HX h2 en Gu;go_enter func171,ntmps171;go_wp2_with fail
    refine CG.o.mono ?_;rintro e w' ⟨rfl,rfl⟩;go_wp2_with fail
    refine Gt.o.mono ?_;rintro e w' ⟨rfl,rfl⟩;go_wp2_with fail
    go_ret2
    exact⟨rfl,rfl⟩
  ·have b1:((k:Int)==205)=false:=by rw[Wz];omega
   have CZ:=Me k 0 w Zo;rw[show Ol k 0=12 by unfold Ol;rw[Z3 h0,Z3 h1]]at CZ;have HCZ:=Zh CZ
   have HX:Hid (X=((n+1)*4,(((n:Int)+1)*4==12))):=by
    show _=_;rw[HE.o,Z3 h0,Z3 h1];congr 1
    rw[Bool.eq_iff_iff,Su,beq_iff_eq];omega
   rw[HX.o];dsimp only;rw[en];clear HE HX h0 h1 en CZ Tx;exact aL
def YF(l:List Int):List Value:=l.map (Value.int .u32)
def VY(p:Int×Int):List Value:=(Qz p.1 p.2)
def WW(x:nJ):List Value:=(Qt x.Yi x.lost x.total x.high x.jitter x.last x.delay)
def Ve:Elem prog 29 66 1 4:=⟨underlying29,⟨.int .u32 0,by kernel_rfl,rfl⟩,by decide⟩
def J6:Elem prog 171 226 2 4:=⟨underlying171,⟨.agg (Qz 0 0),by kernel_rfl,rfl⟩,by decide⟩
def itmAgg(i:Rc)(bv gv pv:Value):Value:= .agg #[.int .i64 i.kind,.int .u32 i.Yi,.int .u64 i.Ez,.int .u32 i.time,.int .u32 i.Wm,.int .u32 i.octets,bv,gv,.int .u32 i.XS,pv]
structure SH(w:World)(v:Value)(i:Rc):Prop where
 ex:∃bv gv pv,v=itmAgg i bv gv pv∧Row w 228 bv i.blocks.length (i.blocks.flatMap WW)∧Row w 66 gv i.gone.length (YF i.gone)∧Row w 226 pv i.Xm.length (i.Xm.flatMap VY)
abbrev Vj(k s m:Int)(gv pv:Value):Array Value:=#[.int .i64 k,.int .u32 s,.int .u64 0,.int .u32 0,.int .u32 0,.int .u32 0,.slice none 0 0,gv,.int .u32 m,pv]
structure PB(w w':World)(k s m:Int)(gv pv:Value):Prop where
 Za:Below w w w'
 tG:w'.heap[w.heap.size]?=some (.cells (Vj 0 0 0 (.slice none 0 0) (.slice none 0 0)) 173)
 Y8:w'.heap[w.heap.size+1]?=some (.cells (Vj k s m gv pv) 173)
def PB.size{w w':World}{k s m:Int}{gv pv:Value}(h:PB w w' k s m gv pv):w.heap.size+1<w'.heap.size:=by
 rcases Nat.lt_or_ge (w.heap.size+1) w' with h1|h1
 ·exact h1
 ·have:=h.Y8;rw[DT h1]at this;cases this
def PB.below{w w1 w':World}{k s m:Int}{gv pv:Value}(h:PB w w1 k s m gv pv)(hb:Below w1 w1 w'):PB w w' k s m gv pv:=by
 have hs:=h.size;exact⟨h.Za.trans (hb.mono Zo),by rw[hb.block _ Zo];exact h.tG,by rw[hb.block _ hs];exact h.Y8⟩
def PB.grown{w w1 w':World}{k s m:Int}{gv pv:Value}(h:PB w w1 k s m gv pv){row:Option Nat}(hg:w1.grownBy w' row)(hr:∀j,row=some j→w.heap.size+2≤j):PB w w' k s m gv pv:=by
 have hs:=h.size;refine⟨h.Za.trans ⟨hg.os,hg.tape,hg.output,hg.size,fun j hj=>hg.block j Zo (fun e=>by have:=hr j e.symm;omega)⟩,?_,?_⟩
 ·rw[hg.block _ Zo (fun e=>by have:=hr _ e.symm;omega)];exact h.tG
 ·rw[hg.block _ hs (fun e=>by have:=hr _ e.symm;omega)];exact h.Y8
def PB.cell{w w':World}{k s m:Int}{gv pv:Value}(h:PB w w' k s m gv pv)(j:Nat):w'.cell? ⟨w.heap.size+1,j,none⟩=(Vj k s m gv pv)[j]?:=by
 have:=h.Y8;simp only[World.cell?,this];rfl
def PB.frozen{w w':World}{k s m:Int}{gv pv:Value}(h:PB w w' k s m gv pv)(j:Nat):w'.frozen? ⟨w.heap.size+1,j,none⟩=false:=by
 have:=h.Y8;simp[World.frozen?,this]
def PB.setG{w w':World}{k s m:Int}{gv pv:Value}(h:PB w w' k s m gv pv)(v:Value):PB w (w'.setCell ⟨w.heap.size+1,7,none⟩ v) k s m v pv:=by
 exact bC
def PB.setP{w w':World}{k s m:Int}{gv pv:Value}(h:PB w w' k s m gv pv)(v:Value):PB w (w'.setCell ⟨w.heap.size+1,9,none⟩ v) k s m gv v:=by
 exact bC
def PB.start(w:World)(k s m:Int):PB w ((w.alloc (.cells (Vj 0 0 0 (.slice none 0 0) (.slice none 0 0)) 173)).alloc (.cells (Vj k s m (.slice none 0 0) (.slice none 0 0)) 173)) k s m (.slice none 0 0) (.slice none 0 0):=
 ⟨((YE _ _).alloc (Zq _) _).alloc Zi _,(ao w _ _).1,(ao w _ _).2⟩
def Cu(b:List UInt8)(p j:Nat)(hj:j<(b.length-p)/4):(XL b p).take (j+1)=(XL b p).take j++[get b (p+4*j:Nat) 4]:=by
 have hl:j<(XL b p).length:=by unfold XL;simpa using hj
 rw[List.take_succ_eq_append_getElem hl]
 congr 2
 simp[XL]
def FD(b:List UInt8)(p:Nat):(XL b p).length=(b.length-p)/4:=by unfold XL;simp
def A9{w w':World}{base:Nat}{e:TypeId}{size:Nat}{v:Value}{n:Nat}{xs:List Value}(h:w.ownsRow base e size v n xs)(hb:∀k,base≤k→k<w.heap.size→w'.heap[k]?=w.heap[k]?):w'.ownsRow base e size v n xs:=by
 obtain⟨h1,h2⟩:=h;refine⟨h1,?_⟩;rcases h2 with h2|⟨g,cap,cur,hv,hg,hh,r⟩
 ·exact WQ h2
 ·have Ow:g<w.heap.size:=by
   rcases Nat.lt_or_ge g w with h|h
   ·exact h
   ·rw[DT h]at hh;cases hh
  exact WG ⟨g,cap,cur,hv,hg,by rw[hb g hg Ow];exact hh,r⟩
def UX{w:World}{base:Nat}{e:TypeId}{size:Nat}{v:Value}{n:Nat}{xs:List Value}(h:w.ownsRow base e size v n xs){b o:Nat}(hp:b<base)(u:Value):(w.setCell ⟨b,o,none⟩ u).ownsRow base e size v n xs:=
 A9 h fun k hk _=>L8 _ _ _ _ (by show k≠b;omega)
def Yq{w w':World}{base:Nat}{e:TypeId}{size:Nat}{v:Value}{n:Nat}{xs:List Value}(h:w.ownsRow base e size v n xs)(hb:Below w w w'):w'.ownsRow base e size v n xs:=A9 h fun k _ hk=>hb.block k hk
def Ku{base:Nat}{e:TypeId}{size:Nat}{v:Value}{n:Nat}{xs:List Value}{w:World}(h:w.ownsRow base e size v n xs):∀k,v.ownBlock=some k→base≤k:=by
 intro k hk;obtain⟨_,h⟩:=h;rcases h with⟨rfl,_⟩|⟨g,cap,cur,rfl,hg,_⟩
 ·cases hk
 ·have hk:some g=some k:=hk;cases hk;exact hg
def Vw(w:World)(e:TypeId)(n:Nat)(xs:List Value)(hn:n≤maxLen):Row (w.alloc (.cells xs.toArray e)) e (.slice (some ⟨w,0,none⟩) n n) n xs:=
 ⟨_,n,rfl,Zq _,hn,(fun h=>by cases h),WG ⟨_,0,xs.toArray,(0,0),rfl,Z9 _ _,fun j _=>by simp⟩⟩
def PB.frozen0{w w':World}{k s m:Int}{gv pv:Value}(h:PB w w' k s m gv pv)(j:Nat):w'.frozen? ⟨w,j,none⟩=false:=by
 have:=h.tG;simp[World.frozen?,this]
def PB.cell0{w w':World}{k s m:Int}{gv pv:Value}(h:PB w w' k s m gv pv)(j:Nat):w'.cell? ⟨w,j,none⟩=(Vj 0 0 0 (.slice none 0 0) (.slice none 0 0))[j]?:=by
 have:=h.tG;simp only[World.cell?,this];rfl
def eQ(w:World)(k:Nat)(v0 v1 v2 v3 v4 v5 v6 v7 v8 v9:Value):Fr w (· = k) w ((((((((((w.setCell ⟨k,0,none⟩ v0).setCell ⟨k,1,none⟩ v1).setCell ⟨k,2,none⟩ v2).setCell ⟨k,3,none⟩ v3).setCell ⟨k,4,none⟩ v4).setCell ⟨k,5,none⟩ v5).setCell ⟨k,6,none⟩ v6).setCell ⟨k,7,none⟩ v7).setCell ⟨k,8,none⟩ v8).setCell ⟨k,9,none⟩ v9):=((((((((((Fr.refl _ _ _).setAt 0 v0).setAt 1 v1).setAt 2 v2).setAt 3 v3).setAt 4 v4).setAt 5 v5).setAt 6 v6).setAt 7 v7).setAt 8 v8).setAt 9 v9
def r9(a b:Nat):((a+4*b:Nat):Int)=(a:Int)+4*(b:Int):=by omega
def ql(v:Value)(b:List UInt8)(w:World)(hv:XU w v b)(h4:b.length%4=0)(hb:b.length≤1000)(S0:4≤b.length) :
  Calls prog 172 #[v,.int .i64 203] w fun e w'=>(∃a,e = .returned a∧SH w' a (parts b 203))∧Below w w w':=by
 have HV:Hid (∀w',Below w w w'→XU w' v b):=fun w' h=>hv.below h
 have hlen:=hv.len;obtain⟨a,c,rfl,Rt,-⟩:=id hv;obtain⟨m,hm⟩:∃m,b.length=4+4*m:=⟨(b.length-4)/4,Zo⟩
 have HW:Hid (∀j,j<m→((XL b 4).take (j+1)).map (fun n:Nat=>(n:Int))=((XL b 4).take j).map (fun n:Nat=>(n:Int))++[(get b (4+4*(j:Int)) 4:Int)]):=fun j hj=>by
  rw[Cu b 4 j Zo,Ng,r9];rfl
 have iX:Hid ((XL b 4).length=m):=by show _=_;rw[FD];omega
 have HWT:Hid (∀j,j≤m→(((XL b 4).take j).map (fun n:Nat=>(n:Int))).length=j):=fun j hj=>by rw[Te,SC,iX.o];omega
 have HE:Hid (parts b 203={XJ with kind:=203,gone:=(XL b 4).map fun(n:Nat)=>(n:Int)}):=rfl;have CN:Hid (∀w' (j:Nat),Below w w w'→Calls prog 183 (Ja a b.length c (4+4*(j:Int))) w' fun e w1=>e = .returned (.int .u32 (get b (4+4*(j:Int)) 4:Nat))∧w'=w1):=fun w' j h=>Pm _ b _ w' (HV.o w' h)
 have zY:=Zh (PB.start w 203 0 0);clear hv HV;rw[hm];rw[hm]at CN;have hm1000:m≤250:=by omega
 generalize parts b 203=X at *;clear hm hlen h4 hb S0 Rt;go_enter func172,ntmps172;go_wp2;go_loopw [6] (fun i w'=>∃(j:Nat) (gv:Value),j≤m∧i = .int .i64 (4+4*(j:Int))∧PB w w' 203 0 0 gv (.slice none 0 0)∧w'.ownsRow (w.heap.size+2) 66 1 gv j (YF (((XL b 4).take j).map (fun n:Nat=>(n:Int))))) (fun i _=>4+4*m-(intOf i).toNat)
 case atStart=>exact⟨0,.slice none 0 0,Tv _,rfl,zY.o,TH _ _ _ _⟩
 case round=>
  clear zY;obtain⟨j,gv,hj,rfl,Cq,Yy⟩:=hrel;have QO:=Zh Cq;have Yd:=Zh Yy;have T8:=Cq.size;have c7:wr.cell? ⟨w.heap.size+1,7,none⟩=some gv:=Cq.cell 7;have c5:=Cq.Y8;clear Cq Yy;by_cases xY:j<m
  ·have CN1:=Zh (CN.o wr j QO.o.Za);have wT:=Zh (HW.o j xY);have hn:get b (4+4*(j:Int)) 4<4294967296:=U7 b _ 4 4 Zd;clear c5;generalize get b (4+4*(j:Int)) 4=n at *;go_wp2_with (first|(go_at_call 183;refine CN1.o.mono ?_;rintro e w' ⟨rfl,rfl⟩)|(at_builtin;refine YN rfl (.tmp 30) (.tmp 32) 29 rfl (w.heap.size+2) Ve gv j _ rfl (Yd.o.alloc _) _ 1 [.int .u32 (n:Int)] rfl (Vw wr 66 1 [.int .u32 (n:Int)] Zd) rfl (by intro u hu;simp at hu;subst hu;rfl) Zo Zo TY (fun v' w5 HO HG=>?_);have zZ:=Zh ((QO.o.below (Z' wr (.cells #[.int .u32 (n:Int)] 66))).grown HG.o (Ku Yd.o));have JK:=zZ.o.size;have f7:=zZ.o.frozen 7;have c75:w5.cell? ⟨w.heap.size+1,7,none⟩=some gv:=zZ.o.cell 7;obtain⟨va,vc,ll,-,-⟩:=Row.Z4 HO.o;subst ll))
   go_roundw
   case rel=>exact⟨j+1,_,Zo,Zn,zZ.o.setG _,by rw[wT.o];exact UX (by have:=HO.o;unfold YF at this ⊢;rw[Ng];exact this) Zo _⟩
   case measure=>simp[intOf];omega
  ·obtain rfl:j=m:=by omega
   have ZW:=Row.Z4 Yd.o;obtain⟨va,vc,rfl,-,-⟩:=id ZW;have e0:=QO.o.cell 0;have e1:=QO.o.cell 1;have e2:=QO.o.cell 2;have e3:=QO.o.cell 3;have e4:=QO.o.cell 4;have e5:=QO.o.cell 5;have e6:=QO.o.cell 6;have e8:=QO.o.cell 8;have e9:=QO.o.cell 9;simp only[Vj,Ss,R_,Rw]at e0 e1 e2 e3 e4 e5 e6 e8 e9;have U0:=Zh ZW;have g0:=fun k=>QO.o.frozen0 k
   have g00:=g0 0;have z0:=QO.o.cell0 0;have g10:=g0 1;have z1:=QO.o.cell0 1;have g20:=g0 2;have z2:=QO.o.cell0 2;have g30:=g0 3;have z3:=QO.o.cell0 3;have g40:=g0 4;have z4:=QO.o.cell0 4;have g50:=g0 5;have z5:=QO.o.cell0 5;have g60:=g0 6;have z6:=QO.o.cell0 6;have g70:=g0 7;have z7:=QO.o.cell0 7;have g80:=g0 8;have z8:=QO.o.cell0 8;have g90:=g0 9;have z9:=QO.o.cell0 9;simp only[Vj,Ss,R_,Rw]at z0 z1 z2 z3 z4 z5 z6 z7 z8 z9;clear ZW c5 g0;have HT:Hid ((XL b 4).take j=XL b 4):=Ex (by rw[iX.o];exact Zq _);have zV:Hid (((XL b 4).map (fun n:Nat=>(n:Int))).length=j):=by show _=_;rw[Te];exact iX.o
   have HK:Hid (∀w',Fr wr (· = w.heap.size) wr w'→(Row w' 66 (.slice va j vc) j (YF (((XL b 4).take j).map (fun n:Nat=>(n:Int))))∧Below w w w')):=fun w' hf=>
    ⟨U0.o.fr hf (Zq _) (fun k c' fr hk e=>by subst hk;rw[QO.o.tG]at e;injection e with e;injection e with _ e _;exact absurd e Zd),QO.o.Za.trans (Fr.below (hf.mono (jD (Nat.lt_trans (Nat.lt_succ_self _) T8)) (fun k hk hs=>by have hs:k=w.heap.size:=hs;omega)))⟩
   go_wp2;refine Vr (v:= .agg (Qe 203 0 0 0 0 0 none 0 0 va j vc 0 none 0 0)) (by simp[results,results172,go_sem,z0,z1,z2,z3,z4,z5,z6,z7,z8,z9]) rfl ⟨⟨_,rfl,?_⟩,?_⟩
   ·have h:=HK.o _ (eQ wr w (.int .i64 203) (.int .u32 0) (.int .u64 0) (.int .u32 0) (.int .u32 0) (.int .u32 0) (.slice none 0 0) (.slice va j vc) (.int .u32 0) (.slice none 0 0));rw[HT.o]at h;refine⟨.slice none 0 0,.slice va j vc,.slice none 0 0,by rw[HE.o];rfl,by rw[HE.o];exact Row.nil _ _,?_,by rw[HE.o];exact Row.nil _ _⟩;rw[HE.o];show Row _ _ _ ((XL b 4).map (fun n:Nat=>(n:Int))).length _;rw[zV.o]
    with_reducible exact h.1
   ·have h:=HK.o _ (eQ wr w (.int .i64 203) (.int .u32 0) (.int .u64 0) (.int .u32 0) (.int .u32 0) (.int .u32 0) (.slice none 0 0) (.slice va j vc) (.int .u32 0) (.slice none 0 0))
    with_reducible exact h.2
def VM{P:Program}{ops:Array Oper}{rest:List Oper}{o:Oper}{a:Act}{w:World}{Q:Exit→Act→World→Prop}(Lt:o.guard=none)(ty:TypeId)(x y:Operand)(ho:o.op = .store ty x y)
  (hd:o.dst=none) (g:Nat) (cells:Array Value) (hx:a.eval x = .pointer (some ⟨g,0,none⟩)) (hy:a.eval y = .agg cells)
  (t:TypeId) (old:Array Value) (hg:w.heap[g]?=some (.cells old t (0,0))) (hi:(P.info? ty).map (·.size)=some cells.size)
  (hold:old.size=cells.size) (h1:cells.all (·.oneCell')=true)
  (h:wpList P ops Q rest a (w.setRow g cells)):wpList P ops Q (o :: rest) a w:=
 Go.wpList_store_row Lt ty x y ho g cells hx hy t old hg hi hold h1 (by rw[hd];exact h)
def ZT{P:Program}{ops:Array Oper}{rest:List Oper}{o:Oper}{a:Act}{w:World}{Q:Exit→Act→World→Prop}(ty:TypeId)(x y:Operand)(_:o.op = .store ty x y)(h:wpList P ops Q (o :: rest) a w):wpList P ops Q (o :: rest) a w:=h
def FY(p:JR)(cv ev pv:Value):Value:= .agg #[.bool p.Xq,.int .i64 p.type,.int .u16 p.seq,.int .u32 p.time,.int .u32 p.Yi,cv,.bool p.Xo,.int .u16 p.XZ,ev,pv,.int .i64 p.pad]
structure Np(w:World)(v:Value)(p:JR):Prop where
 ex:∃cv ev pv,v=FY p cv ev pv∧Row w 66 cv p.Vs.length (YF p.Vs)∧Row w 5 ev p.ext.length (Re p.ext)∧Row w 5 pv p.Zz.length (Re p.Zz)
def cell_of{w:World}{b:Nat}{cs:Array Value}{e:TypeId}(h:w.heap[b]?=some (.cells cs e))(j:Nat):w.cell? ⟨b,j,none⟩=cs[j]?:=by
 simp only[World.cell?,h];rfl
def ZP{w:World}{b:Nat}{cs:Array Value}{e:TypeId}(h:w.heap[b]?=some (.cells cs e))(j:Nat):w.frozen? ⟨b,j,none⟩=false:=by
 simp[World.frozen?,h]
def uV(v:Value)(b:List UInt8)(w:World)(hv:XU w v b)(h0:(looks b).2≠0) :
  Calls prog 125 #[v] w fun e w'=>(∃a,e = .returned (.tuple #[a,.int .i64 (YH b).2])∧Np w' a (YH b).1)∧Below w w w':=by
 have HX:Hid (YH b=(WT,(looks b).2)):=by show _=_;unfold YH;rw[ZU h0]
 have C:=fun w1 h=>yA v b w1 (hv.below (h:Below w w w1))
 have HC:=Zh C;obtain⟨a,c,rfl,Rt,-⟩:=id hv;clear C hv;have bl:((looks b).2 !=0)=true:=by rw[Rs];exact h0
 have bl2:((looks b).2==0)=false:=by rw[Wz];exact h0
 generalize YH b=X at *;generalize looks b=Y at *;go_enter func125,ntmps125;go_wp2_with fail
 refine(HC.o _ (Z' _ _)).mono ?_;rintro e w2 ⟨rfl,Y7⟩;have z0:=Y7.block w Ah;rw[Z9]at z0;have zz:w.heap.size+1≤w2.heap.size:=by have h:=Y7.size;have h:(w.heap.push _).size≤w2.heap.size:=h;rw[N9]at h;exact h
 have y0:=((Z' w2 (.cells (Qn (Y.1.1:Nat) (Y.1.2.1:Nat) (Y.1.2.2:Nat)) 238)).block w Zo).trans z0;have z1:=cell_of y0 0;have z2:=cell_of y0 1;have z3:=cell_of y0 2;have z4:=cell_of y0 3;have z5:=cell_of y0 4;have z6:=cell_of y0 5;have z7:=cell_of y0 6;have z8:=cell_of y0 7;have z9:=cell_of y0 8;have mQ:=cell_of y0 9;have z11:=cell_of y0 10;simp only[Ss,R_,Rw]at z1 z2 z3 z4 z5 z6 z7 z8 z9 mQ z11;have H9:=fun(R:World→Prop) (h:R (w2.alloc (.cells (Qn (Y.1.1:Nat) (Y.1.2.1:Nat) (Y.1.2.2:Nat)) 238)))=>(by rw[setRow_self _ _ _ _ _ y0];exact h:R ((w2.alloc (.cells (Qn (Y.1.1:Nat) (Y.1.2.1:Nat) (Y.1.2.2:Nat)) 238)).setRow w UO))
 have HS:=Zh H9;clear H9 z0 HC;go_wp2_with (with_reducible refine ZT 79 (.tmp 2) (.tmp 15) rfl ?_;go_loud (refine Zs y0 ?_;refine HS.o _ ?_))
 refine Vr (v:= .tuple (Qo UO Y.2)) (by simp[results,results125,go_sem,z1,z2,z3,z4,z5,z6,z7,z8,z9,mQ,z11]) rfl ⟨⟨_,by rw[HX.o],?_⟩,?_⟩
 ·exact⟨.slice none 0 0,.slice none 0 0,.slice none 0 0,by rw[HX.o];rfl,by rw[HX.o];exact Row.nil _ _,by rw[HX.o];exact Row.nil _ _,by rw[HX.o];exact Row.nil _ _⟩
 ·have h3:=Z' w2 (.cells (Qn (Y.1.1:Nat) (Y.1.2.1:Nat) (Y.1.2.2:Nat)) 238);have h4:=h3.mono (show w.heap.size≤w2.heap.size by omega);have h5:=Y7.mono (show w.heap.size≤(w.heap.push _).size by rw[N9];exact JV _);exact((Z' w _).trans h5).trans h4
def lO{b:List UInt8}(h:(looks b).2=0):12≤b.length∧b.length≤512∧12≤(looks b).1.1∧(looks b).1.1≤(looks b).1.2.1∧(looks b).1.2.1≤(looks b).1.2.2∧(looks b).1.2.2≤b.length:=by
 unfold looks at h ⊢;by_cases h1:512<b.length
 ·rw[ZU h1]at h;cases h
 rw[Z3 h1]at h ⊢;by_cases h2:b.length<12
 ·rw[ZU h2]at h;cases h
 rw[Z3 h2]at h ⊢;by_cases h3:at8 b 0/64≠2
 ·rw[ZU h3]at h;cases h
 rw[Z3 h3]at h ⊢;by_cases h4:192≤at8 b 1∧at8 b 1≤223
 ·rw[ZU h4]at h;cases h
 rw[Z3 h4]at h ⊢;dsimp only at h ⊢
 have hE:(Vf b (12+4*(at8 b 0%16))).2=true→12≤(Vf b (12+4*(at8 b 0%16))).1.1∧(Vf b (12+4*(at8 b 0%16))).1.1≤(Vf b (12+4*(at8 b 0%16))).1.2∧(Vf b (12+4*(at8 b 0%16))).1.2≤b.length:=by
  unfold Vf;by_cases g:at8 b 0/16%2=0
  ·rw[ZU g];intro h;have h:=of_decide_eq_true h;exact⟨Nat.le_add_right _ _,Zq _,h⟩
  ·rw[Z3 g];intro h;have h:=(UN _ _).mp h;have h:=of_decide_eq_true h.2;exact⟨by show 12≤12+4*(at8 b 0%16)+4;omega,Nat.le_add_right _ _,h⟩
 generalize Vf b (12+4*(at8 b 0%16))=x at *;by_cases h5:x.2=false
 ·rw[ZU h5]at h;cases h
 rw[Z3 h5]at h ⊢;obtain⟨e1,e2,e3⟩:=hE (by simpa using h5)
 have hP:(Rp b (b.drop x.1.2)).2=true→(Rp b (b.drop x.1.2)).1≤b.length-x.1.2:=by
  unfold Rp;by_cases g:at8 b 0/32%2=0
  ·rw[ZU g];intro _;exact Tv _
  rw[Z3 g];by_cases g2:(b.drop x.1.2).length=0
  ·rw[ZU g2];intro h;cases h
  rw[Z3 g2];dsimp only;by_cases g3:at8 (b.drop x.1.2) ((b.drop x.1.2).length-1)=0∨(b.drop x.1.2).length<at8 (b.drop x.1.2) ((b.drop x.1.2).length-1)
  ·rw[ZU g3];intro h;cases h
  rw[Z3 g3];have hl:(b.drop x.1.2).length=b.length-x.1.2:=QG;split
  ·intro _;show at8 _ _≤_;omega
  ·intro h;cases h
 generalize Rp b (b.drop x.1.2)=y at *;by_cases h6:y.2=false
 ·rw[ZU h6]at h;cases h
 rw[Z3 h6];have:=hP (by simpa using h6);exact⟨Zo,Zo,e1,e2,by show x.1.2≤b.length-y.1;omega,by show b.length-y.1≤b.length;omega⟩
def ZY{w:World}{g:Nat}{o:Obj}(h:w.heap[g]?=some o):g<w.heap.size:=by
 rcases Nat.lt_or_ge g w with h1|h1
 ·exact h1
 ·rw[DT h1]at h;cases h
def Vu{w:World}{g:Nat}{c:Array Value}{t:TypeId}{f:Nat×Nat}(h:w.heap[g]?=some (.cells c t f))(o:Nat)(u:Value):(w.setCell ⟨g,o,none⟩ u).heap[g]?=some (.cells (c.setIfInBounds o u) t f):=by
 simp[World.setCell,Array.getElem?_modify,h]
def S6(w:World)(g:Nat)(c:Array Value):Fr w (· = g) w (w.setRow g c):=
 ⟨rfl,rfl,rfl,by simp[World.setRow],fun k _ hk=>setRow_other w g k _ (fun e=>hk e)⟩
def Row.setRow{w:World}{e:TypeId}{v:Value}{n:Nat}{xs:List Value}(h:Row w e v n xs){g:Nat}{c:Array Value}{t:TypeId}{f:Nat×Nat}(hg:w.heap[g]?=some (.cells c t f))(WA:e≠t)(c':Array Value):Row (w.setRow g c') e v n xs:=
 h.fr (S6 w g c') (Zq _) (fun k _ _ hk=>by have hk:k=g:=hk;rw[hk,hg];intro h;injection h with h;injection h with _ h;exact WA h.symm)
def zpkt:List Value:=Yz3
structure PK(w w':World)(s p:Nat)(sh cs:List Value):Prop where
 Za:Below w w w'
 res:w'.heap[w.heap.size]?=some (.cells zpkt.toArray 79)
 shp:w'.heap[s]?=some (.cells sh.toArray 238)
 Y8:w'.heap[p]?=some (.cells cs.toArray 79)
 lt:w.heap.size<s∧s<p
def PK.pW{w w':World}{s p:Nat}{sh cs:List Value}(h:PK w w' s p sh cs):p<w'.heap.size:=ZY h.Y8
def PK.cell{w w':World}{s p:Nat}{sh cs:List Value}(h:PK w w' s p sh cs)(j:Nat):w'.cell? ⟨p,j,none⟩=cs[j]?:=by
 rw[cell_of h.Y8 j];exact Ss
def PK.frozen{w w':World}{s p:Nat}{sh cs:List Value}(h:PK w w' s p sh cs)(j:Nat):w'.frozen? ⟨p,j,none⟩=false:=ZP h.Y8 j
def PK.QB{w w':World}{s p:Nat}{sh cs:List Value}(h:PK w w' s p sh cs)(j:Nat):w'.cell? ⟨s,j,none⟩=sh[j]?:=by
 rw[cell_of h.shp j];exact Ss
def PK.drew{w w':World}{s p:Nat}{sh cs:List Value}(h:PK w w' s p sh cs):PK w w'.drew s p sh cs:=⟨h.Za.drew,h.res,h.shp,h.Y8,h.lt⟩
def PK.below{w w1 w':World}{s p:Nat}{sh cs:List Value}(h:PK w w1 s p sh cs)(hb:Below w1 w1 w'):PK w w' s p sh cs:=by
 have hk:=h.pW;have hl:=h.lt;refine⟨h.Za.trans (hb.mono Zo),?_,?_,?_,hl⟩
 ·rw[hb.block _ Zo];exact h.res
 ·rw[hb.block _ Zo];exact h.shp
 ·rw[hb.block _ Zo];exact h.Y8
def PK.set{w w':World}{s p:Nat}{sh cs:List Value}(h:PK w w' s p sh cs)(j:Nat)(u:Value):PK w (w'.setCell ⟨p,j,none⟩ u) s p sh (cs.set j u):=by
 have hl:=h.lt;refine⟨h.Za.setCell (p:=⟨p,j,none⟩) (by show w.heap.size≤p;omega) u,?_,?_,?_,hl⟩
 ·rw[L8 _ _ _ _ (by show w.heap.size≠p;omega)];exact h.res
 ·rw[L8 _ _ _ _ (by show s≠p;omega)];exact h.shp
 ·rw[Vu h.Y8 j u];simp
def PK.grown{w w1 w':World}{s p:Nat}{sh cs:List Value}(h:PK w w1 s p sh cs){row:Option Nat}(hg:w1.grownBy w' row)(hr:∀j,row=some j→p<j):PK w w' s p sh cs:=by
 have hk:=h.pW;have hl:=h.lt;refine⟨h.Za.trans ⟨hg.os,hg.tape,hg.output,hg.size,fun i hi=>hg.block i Zo (fun e=>by have:=hr i e.symm;omega)⟩,?_,?_,?_,hl⟩
 ·rw[hg.block _ Zo (fun e=>by have:=hr _ e.symm;omega)];exact h.res
 ·rw[hg.block _ Zo (fun e=>by have:=hr _ e.symm;omega)];exact h.shp
 ·rw[hg.block _ hk (fun e=>by have:=hr _ e.symm;omega)];exact h.Y8
def PK.row{w w':World}{s p:Nat}{sh cs:List Value}(h:PK w w' s p sh cs)(cs':List Value):PK w (w'.setRow (p) cs'.toArray) s p sh cs':=by
 have hl:=h.lt;have hf:=S6 w' (p) cs'.toArray;have hk:=h.pW;refine⟨h.Za.trans (Fr.below (hf.mono (show w.heap.size≤w'.heap.size by omega) (fun j hj hs=>by have hs:j=p:=hs;omega))),?_,?_,setRow_heap _ _ _ _ _ _ h.Y8,hl⟩
 ·rw[hf.block _ Zo (fun hs=>by have hs:w.heap.size=p:=hs;omega)];exact h.res
 ·rw[hf.block _ Zo (fun hs=>by have hs:s=p:=hs;omega)];exact h.shp
structure PL(w w':World)(s p:Nat)(sh cs:List Value)(cv:Value)(j:Nat)(xs:List Value):Prop where
 pk:PK w w' s p sh cs
 own:w'.ownsRow (p+1) 66 1 cv j xs
def PL.grown{w w1 w':World}{s p:Nat}{sh cs:List Value}{cv:Value}{j:Nat}{xs:List Value}(h:PL w w1 s p sh cs cv j xs)(hg:w1.grownBy w' cv.ownBlock):PK w w' s p sh cs:=
 h.pk.grown hg (fun i hi=>by have:=Ku h.own i hi;omega)
structure PR(w w':World)(s p:Nat)(sh cs:List Value)(cv ev pv:Value)(xs:List Int)(es ps:List UInt8):Prop where
 pk:PK w w' s p sh cs
 csr:Row w' 66 cv xs.length (YF xs)
 exr:Row w' 5 ev es.length (Re es)
 pyl:Row w' 5 pv ps.length (Re ps)
def PR.below{w w1 w':World}{s p:Nat}{sh cs:List Value}{cv ev pv:Value}{xs:List Int}{es ps:List UInt8}(h:PR w w1 s p sh cs cv ev pv xs es ps)(hb:Below w1 w1 w'):PR w w' s p sh cs cv ev pv xs es ps:=
 ⟨h.pk.below hb,h.csr.below hb,h.exr.below hb,h.pyl.below hb⟩
def PR.drew{w w1:World}{s p:Nat}{sh cs:List Value}{cv ev pv:Value}{xs:List Int}{es ps:List UInt8}(h:PR w w1 s p sh cs cv ev pv xs es ps):PR w w1.drew s p sh cs cv ev pv xs es ps:=
 h.below (YE _ _).drew
def PR.set{w w1:World}{s p:Nat}{sh cs:List Value}{cv ev pv:Value}{xs:List Int}{es ps:List UInt8}(h:PR w w1 s p sh cs cv ev pv xs es ps)(j:Nat)(u:Value):PR w (w1.setCell ⟨p,j,none⟩ u) s p sh (cs.set j u) cv ev pv xs es ps:=
 ⟨h.pk.set j u,h.csr.setCell (p:=⟨p,j,none⟩) h.pk.Y8 Zd u,h.exr.setCell (p:=⟨p,j,none⟩) h.pk.Y8 Zd u,h.pyl.setCell (p:=⟨p,j,none⟩) h.pk.Y8 Zd u⟩
def Xl(p s:Int):Int:=if Vv p 9&&Vv s 9 then 3221225472+(256*p+s)else 0
def UY(x:Int):Int×Int×Bool:=
 if Vv ((x+1073741824)%4294967296/256) 9&&Vv ((x+1073741824)%4294967296%256) 9 then((x+1073741824)%4294967296/256,(x+1073741824)%4294967296%256,true)else(0,0,false)
def Xf{n m:Int}:Vv n m=true↔1≤n∧n<m:=by unfold Vv;simp
def DA{x p s:Int}(h0:0≤x)(h1:x<4294967296):(Vv p 9=true∧Vv s 9=true∧Xl p s=x)↔UY x=(p,s,true):=by
 unfold UY Xl;constructor
 ·rintro⟨h2,h3,h4⟩;rw[h2,h3]at h4;have h4:3221225472+(256*p+s)=x:=by simpa using h4
  rw[Xf]at h2 h3;have e1:(x+1073741824)%4294967296/256=p:=by omega
  have e2:(x+1073741824)%4294967296%256=s:=by omega
  rw[e1,e2,Xf.2 h2,Xf.2 h3];rfl
 ·intro h;split at h
  ·rename_i hc
   injection h with h2 h3
   injection h3 with h3 _
   rw[h2,h3,UN]at hc;rw[hc.1,hc.2];rw[Xf,Xf]at hc;refine⟨rfl,rfl,?_⟩;show(if true&&true then _ else _)=x;simp only[Bool.and_self,if_true];omega
  ·injection h with _ h;injection h with _ h;cases h
def owned(R:Room)(peer x:Int):Bool:=(of R x).2.2&&decide ((R.src (of R x).1.toNat).own=peer)
def Ul(R:Room)(peer x:Int):Bool:=(UY x).2.2&&decide ((UY x).1=peer)&&Ze R peer (UY x).2.1
def xA(e:Int):Int:=if e=0 then 0 else 1
def Y6(peer:Int):List Int→Room→(List Yz×Room)×Int
 | [],R=>(([],R),0)
 | x :: l,R=>
  (((YM R peer x).1.1++(Y6 peer l (YM R peer x).1.2).1.1,(Y6 peer l (YM R peer x).1.2).1.2),xA (YM R peer x).2+(Y6 peer l (YM R peer x).1.2).2)
def NF(peer x:Int):∀(l:List Int) (R:Room),
  Y6 peer (l++[x]) R=(((Y6 peer l R).1.1++(YM (Y6 peer l R).1.2 peer x).1.1,(YM (Y6 peer l R).1.2 peer x).1.2),(Y6 peer l R).2+xA (YM (Y6 peer l R).1.2 peer x).2)
 | [],R=>by simp only[Y6,IC,rC,Int.add_zero,Int.zero_add]
 | y :: l,R=>by
  have ih:=NF peer x l (YM R peer y).1.2;rw[List.cons_append];unfold Y6;rw[ih];simp only[bF,Int.add_assoc]
def X_(R:Room)(peer:Int)(i:Rc):(List Yz×Room)×Int:=
 if i.kind=200 then(([],R),if owned R peer i.Yi then 0 else 1)
 else if i.kind=205∨i.kind=206 then(([],R),if Ul R peer i.XS then 0 else 1)
 else if i.kind=203 then Y6 peer i.gone R
 else(([],R),0)
def Zw(peer:Int):List Rc→Room→(List Yz×Room)×Int
 | [],R=>(([],R),0)
 | x :: l,R=>(((X_ R peer x).1.1++(Zw peer l (X_ R peer x).1.2).1.1,(Zw peer l (X_ R peer x).1.2).1.2),(X_ R peer x).2+(Zw peer l (X_ R peer x).1.2).2)
def NI(peer:Int)(x:Rc):∀(l:List Rc) (R:Room),
  Zw peer (l++[x]) R=(((Zw peer l R).1.1++(X_ (Zw peer l R).1.2 peer x).1.1,(X_ (Zw peer l R).1.2 peer x).1.2),(Zw peer l R).2+(X_ (Zw peer l R).1.2 peer x).2)
 | [],R=>by simp only[Zw,IC,rC,Int.add_zero,Int.zero_add]
 | y :: l,R=>by
  have ih:=NI peer x l (X_ R peer y).1.2;rw[List.cons_append];unfold Zw;rw[ih];simp only[bF,Int.add_assoc]
structure Et where
 kind:Int
 source:Int
 Nt:Int
 err:Int
deriving DecidableEq
structure Taken where
 XR:Et
 XM:JR
 WI:Eu
 items:List Rc
 turns:List Yz
 unknown:Int
def Uo:Taken:=⟨⟨0,0,0,0⟩,WT,S_,[],[],0⟩
def Ya(kind err:Int):Taken:={Uo with XR:=⟨kind,0,0,err⟩}
def VK(R:Room)(ep peer:Int)(p:JR)(d:Eu):Taken:=
 if owned R peer p.Yi&&decide ((of R p.Yi).2.1=d.ZC)then{Uo with XR:=⟨1,(of R p.Yi).1,ep,0⟩,XM:=p,WI:=d}else Ya 5 0
def Uc(ep:Int)(l:List Rc)(ts:List Yz)(u:Int):Taken:={Uo with XR:=⟨2,0,ep,0⟩,items:=l,turns:=ts,unknown:=u}
def YD(R:Room)(ep peer:Int)(b:List UInt8):(Taken×Room)×Int:=
 if(XX b).2≠0 then((Ya 3 (XX b).2,R),ep)
 else if !Y5 R peer then((Ya 4 0,R),ep)
 else match(XX b).1 with
  | .XS p d=>((VK R ep peer p d,R),ep)
  | .X4 l=>((Uc (ep+1) l (Zw peer l R).1.1 (Zw peer l R).2,(Zw peer l R).1.2),ep+1)
  | .none=>((Uc (ep+1) [] [] 0,R),ep+1)
def take(R:Room)(ep:Int)(o:Op)(b:List UInt8)(sv:Value):(Taken×Room)×Int:=
 if o.kind=1 then YD R ep o.peer b
 else if(Wq R o sv).2≠0 then((Ya 6 (Wq R o sv).2,R),ep)
 else((Uc (ep+1) [] (Wq R o sv).1.1 0,(Wq R o sv).1.2),ep+1)
section
open Go.Lib
def str(l:List UInt8):ByteArray:=⟨l.toArray⟩
def MV(l:List UInt8):(str l).size=l.length:=by simp[str,ByteArray.size]
def str_eq(s:ByteArray):str s.data.toList=s:=by cases s;rfl
def foldl_push(ns:List UInt8):∀s:ByteArray,(ns.map fun b=>((b.toNat:Nat):Int)).foldl (fun r n=>r.push (UInt8.ofNat n.toNat)) s=⟨(s.data.toList++ns).toArray⟩:=by
 induction ns with
 | nil=>intro s;simp
 | cons b t ih=>
  intro s;rw[List.map_cons,List.foldl_cons,ih]
  congr 1
  simp[ByteArray.push]
def Ma(w:World)(b off:Nat)(m:List UInt8):Prop:=
 ∀j,j<m.length→w.cell? ⟨b,off+j,none⟩=some (.int .u8 (m.getD j 0).toNat)∧w.frozen? ⟨b,off+j,none⟩=false
def Em{P:Program}{w:World}{b off c:Nat}{m:List UInt8}(src dst e:TypeId)(h:Ma w b off m)
  (hs:P.underlying src=some (.slice e)) (he:P.underlying e=some (.int .u8)) (hd:P.underlying dst=some .string) :
  (convert src dst (.slice (some ⟨b,off,none⟩) m.length c)).run P w = .ok (.string (str m)) w:=by
 rw[run_convert_bytes_string w src dst e _ _ _ hs he hd]
 have hl:(loadCells ⟨b,off,none⟩ m.length).run P w = .ok ((m.map fun b=>((b.toNat:Nat):Int)).map (Value.int .u8)).toArray w:=by
  have:=run_loadCells_list (P:=P) (w:=w) ⟨b,off,none⟩ ((m.map fun b=>((b.toNat:Nat):Int)).map (Value.int .u8)) (by
   intro j v hv
   have hj:j<m.length:=by
    have:=(List.getElem?_eq_some_iff.1 hv).1;simpa using this
   have:=(h j hj).1;simp only[List.getElem?_map,U' hj,Option.map_some]at hv;rw[QQ,U' hj]at this;cases hv;unfold Addr.add;by_cases h0:j=0
   ·subst h0;simpa using this
   ·rw[Z3 h0];exact this)
  simpa using this
 rw[run_bytesToString w _ _ _ _ hl,foldl_push];rfl
def gw{w:World}{b off:Nat}{m:List UInt8}(h:Ma w b off m){i:Nat}(x:UInt8) :
  Ma (w.setCell ⟨b,off+i,none⟩ (.int .u8 x.toNat)) b off (m.set i x):=by
 intro j hj;rw[List.length_set]at hj;obtain⟨h1,h2⟩:=h j hj;by_cases hij:i=j
 ·subst hij;refine⟨?_,by rw[World.frozen?_setCell];exact h2⟩;rw[QQ,List.getElem?_set_self hj,nu _ _ _ h1];rfl
 ·refine⟨?_,by rw[World.frozen?_setCell];exact h2⟩;rw[QQ,List.getElem?_set_ne hij,World.cell?_setCell_other _ _ _ _ (by intro e;injection e;omega),h1,QQ]
def KH(w:World)(e:TypeId)(s:ByteArray):Ma (bytesWorld w e s) w 0 s.data.toList:=by
 intro j hj;rw[PA];rw[←Lib.size_eq]at hj;refine⟨bytesWorld_cell w e s j hj,?_⟩;simp only[World.frozen?,bytesWorld_at_new,bytesCells];simp;intro h;have:s.data.size=s.size:=rfl;omega
def xh(w:World)(e:TypeId)(s:ByteArray):Below w w (bytesWorld w e s):=
 ⟨rfl,rfl,rfl,by rw[bytesWorld_size];omega,fun k hk=>bytesWorld_at_old w e s k hk⟩
end
section
variable {P:Program}
def En(w:World)(g off:Nat)(ty:TypeId)(cs:Array Value)(d:TypeDesc)(hc:∀j,j<cs.size→w.cell? ⟨g,off+j,none⟩=cs[j]?)
  (hu:P.underlying ty=some d) (hd:(match d with | .struct _ | .array _ _=>true|_=>false)=true) (hi:(P.info? ty).map (·.size)=some cs.size) :
  (loadVar ty ⟨g,off,none⟩).run P w = .ok (.agg cs) w:=by
 have hl:(loadCells ⟨g,off,none⟩ cs.toList.length).run P w = .ok cs.toList.toArray w:=
  run_loadCells_list (P:=P) w ⟨g,off,none⟩ cs.toList (fun j v hv=>by
   have hj:j<cs.size:=by
    have:=(List.getElem?_eq_some_iff.1 hv).1;simpa using this
   have MC:(⟨g,off,none⟩:Addr).add j=⟨g,off+j,none⟩:=by unfold Addr.add;split <;> simp_all
   rw[MC,hc j hj]
   simpa using hv)
 cases hq:P.info? ty with
 | none=>simp[hq]at hi
 | some i=>
  have hs:i.size=cs.size:=by simpa[hq]using hi
  have fw:(isAgg ty).run P w = .ok true w:=by
   unfold isAgg;rw[Sem.run_bind,run_underlying hu w];cases d <;> simp_all
  simp only[Array.length_toList,Array.toArray_toList]at hl;simp[loadVar,Sem.run_bind,fw,sizeOf,typeInfo,hq,hs,hl]
def Bv{o:Oper}{a:Act}{w:World}{K:Act→World→Prop}{Q:Exit→Act→World→Prop}(ty:TypeId)(x:Operand)(ho:o.op = .load ty x)
  (g off:Nat) (hx:a.eval x = .pointer (some ⟨g,off,none⟩)) (cs:Array Value) (d:TypeDesc) (hc:∀j,j<cs.size→w.cell? ⟨g,off+j,none⟩=cs[j]?)
  (hu:P.underlying ty=some d) (hd:(match d with | .struct _ | .array _ _=>true|_=>false)=true) (hi:(P.info? ty).map (·.size)=some cs.size)
  (h:K (a.put o.dst (.agg cs)) w):o.wp P a w K Q:=by
 unfold Oper.wp execOp;simp only[ho,hx,Instr.loadAt,Instr.sureAddr,Sem.run_bind,Sem.run_pure,Result.andThen_ok,En w g off ty cs d hc hu hd hi];exact h
def Sp{ops:Array Oper}{rest:List Oper}{o:Oper}{a:Act}{w:World}{Q:Exit→Act→World→Prop}(Lt:o.guard=none)(ty:TypeId)(x:Operand)(ho:o.op = .load ty x)
  (g off:Nat) (hx:a.eval x = .pointer (some ⟨g,off,none⟩)) (cs:Array Value) (d:TypeDesc) (hc:∀j,j<cs.size→w.cell? ⟨g,off+j,none⟩=cs[j]?)
  (hu:P.underlying ty=some d) (hd:(match d with | .struct _ | .array _ _=>true|_=>false)=true) (hi:(P.info? ty).map (·.size)=some cs.size)
  (h:wpList P ops Q rest (a.put o.dst (.agg cs)) w):wpList P ops Q (o :: rest) a w:=
 wpList_plain Lt fun _ hK=>Bv ty x ho g off hx cs d hc hu hd hi (hK _ _ h)
def LZ(w:World)(t e:TypeId)(n:Nat)(cs:Array Value)(i sz:Nat)(d:TypeDesc)(h:P.underlying t=some (.array n e))(hi:i<n)
  (hu:P.underlying e=some d) (hd:(match d with | .struct _ | .array _ _=>true|_=>false)=true) (hs:(P.info? e).map (·.size)=some sz) (ys:Array Value) (hy:cs.extract (i*sz) (i*sz+sz)=ys) :
  (Instr.index t (.agg cs) (.int .i64 (i:Int))).run P w = .ok (.agg ys) w:=by
 cases hq:P.info? e with
 | none=>simp[hq]at hs
 | some q=>
  have cC:q.size=sz:=by simpa[hq]using hs
  have fw:(isAgg e).run P w = .ok true w:=by
   unfold isAgg;rw[Sem.run_bind,run_underlying hu w];cases d <;> simp_all
  exact bw
def F8(w:World)(t e:TypeId)(n:Nat)(cs:Array Value)(i:Nat)(d:TypeDesc)(h:P.underlying t=some (.array n e))(hi:i<n)
  (hu:P.underlying e=some d) (hd:(match d with | .struct _ | .array _ _=>true|_=>false)=false) (hs:(P.info? e).map (·.size)=some 1) (y:Value) (hy:cs[i]?=some y) :
  (Instr.index t (.agg cs) (.int .i64 (i:Int))).run P w = .ok y w:=by
 cases hq:P.info? e with
 | none=>simp[hq]at hs
 | some q=>
  have cC:q.size=1:=by simpa[hq]using hs
  have fw:(isAgg e).run P w = .ok false w:=by
   unfold isAgg;rw[Sem.run_bind,run_underlying hu w];cases d <;> simp_all
  exact bw
end
def Mo(s:Src)(i:Nat):Value:=
 if i=0 then .bool s.there else if i=1 then .int .i64 s.num else if i=2 then .int .i64 s.own else if i=3 then s.sv else .bool s.ZJ
def SV(x:Sub)(i:Nat):Value:=
 if i=0 then .bool x.there else if i=1 then .bool x.ZV else .int .i64 x.want
def Wy(R:Room)(j:Nat):Value:=
 if j<9 then .string (str (R.names j))else if j<54 then Mo (R.src ((j-9)/5)) ((j-9)%5)
 else SV (R.sub ((j-54)/27) ((j-54)%27/3)) ((j-54)%3)
def bd(l:List Int):List Value:=l.map (Value.int .u32)
structure ZQ(w:World)(b:Nat)(R:Room):Prop where
 cells:∃c,w.heap[b]?=some (.cells c 152)∧c.size=297∧∀j,j<297→c[j]?=some (Wy R j)
 rows:∀n,n<9→Row w 66 (R.src n).sv (R.src n).ss.length (bd (R.src n).ss)
def ZQ.lt{w:World}{b:Nat}{R:Room}(h:ZQ w b R):b<w.heap.size:=by
 obtain⟨c,hc,_⟩:=h.cells;rcases Nat.lt_or_ge b w with h|h
 ·exact h
 ·rw[DT h]at hc;cases hc
def ZQ.cell{w:World}{b:Nat}{R:Room}(h:ZQ w b R){j:Nat}(hj:j<297):w.cell? ⟨b,j,none⟩=some (Wy R j):=by
 obtain⟨c,hc,_,Ut⟩:=h.cells;simp only[World.cell?,hc];exact Ut j hj
def ZQ.Yv{w:World}{b:Nat}{R:Room}(h:ZQ w b R)(j:Nat):w.frozen? ⟨b,j,none⟩=false:=by
 obtain⟨c,hc,_,_⟩:=h.cells;simp[World.frozen?,hc]
def ZQ.fr{B:Nat}{S:Nat→Prop}{w w':World}{b:Nat}{R:Room}(h:ZQ w b R)(hf:Fr B S w w')(hB:w.heap.size≤B)(hb:¬S b)(hS:∀k c fr,S k→w.heap[k]?≠some (.cells c 66 fr)):ZQ w' b R:=by
 have Ow:=h.lt;obtain⟨c,hc,hs,Ut⟩:=h.cells;exact⟨⟨c,by rw[hf.block b Zo hb];exact hc,hs,Ut⟩,fun n hn=>(h.rows n hn).fr hf hB hS⟩
def ZQ.below{w w':World}{b:Nat}{R:Room}(h:ZQ w b R)(hb:Below w w w'):ZQ w' b R:=
 h.fr (Fr.Z8 Pj hb) (Zq _) (fun x=>x) (fun _ _ _ h=>h.elim)
def ZQ.other{w:World}{b:Nat}{R:Room}(h:ZQ w b R):∀k c fr,k=b→w.heap[k]?≠some (.cells c 66 fr):=by
 intro k c fr hk e;subst hk;obtain⟨c',hc,_,_⟩:=h.cells;rw[hc]at e;injection e with e
 injection e with _ e _
 exact absurd e Zd
def ZQ.set{w:World}{b:Nat}{R R':Room}(h:ZQ w b R){i:Nat}{v:Value}(hi:i<297)(hv:∀j,j<297→Wy R' j=if j=i then v else Wy R j)
  (hr:∀n,n<9→Row w 66 (R'.src n).sv (R'.src n).ss.length (bd (R'.src n).ss)):ZQ (w.setCell ⟨b,i,none⟩ v) b R':=by
 have ho:=h.other;obtain⟨c,hc,hs,Ut⟩:=h.cells;refine⟨⟨c.setIfInBounds i v,?_,by rw[Array.size_setIfInBounds];exact hs,fun j hj=>?_⟩,fun n hn=>?_⟩
 ·simp[World.setCell,Array.getElem?_modify,hc]
 ·rw[hv j hj,Array.getElem?_setIfInBounds];by_cases hij:i=j
  ·subst hij;rw[ZU rfl,ZU rfl,ZU Zo]
  ·rw[Z3 hij,Z3 (fun e=>hij e.symm)];exact Ut j hj
 ·exact(hr n hn).fr ((Fr.refl w (· = b) w).setCell (WG rfl) v) (Zq _) ho
def uL(R:Room){n p i:Nat}(hn:n<9)(hp:p<9)(hi:i<3):Wy R (54+n*27+p*3+i)=SV (R.sub n p) i:=by
 unfold Wy;rw[Z3 Zo,Z3 Zo,show(54+n*27+p*3+i-54)/27=n by omega,show(54+n*27+p*3+i-54)%27/3=p by omega,show(54+n*27+p*3+i-54)%3=i by omega]
def I8(R:Room){n i:Nat}(hn:n<9)(hi:i<5):Wy R (9+n*5+i)=Mo (R.src n) i:=by
 unfold Wy;rw[Z3 Zo,ZU Zo,show(9+n*5+i-9)/5=n by omega,show(9+n*5+i-9)%5=i by omega]
def ZQ.Ge{w:World}{b:Nat}{R:Room}(h:ZQ w b R){n p:Nat}(hn:n<9)(hp:p<9) :
  w.cell? ⟨b,54+n*27+p*3,none⟩=some (.bool (R.sub n p).there)∧w.cell? ⟨b,54+n*27+p*3+1,none⟩=some (.bool (R.sub n p).ZV)∧w.cell? ⟨b,54+n*27+p*3+2,none⟩=some (.int .i64 (R.sub n p).want):=
 ⟨by rw[h.cell Zo];exact congrArg some (uL R (i:=0) hn hp Zo),by rw[h.cell Zo,uL R hn hp Zo];rfl,by rw[h.cell Zo,uL R hn hp Zo];rfl⟩
def ZQ.L_{w:World}{b:Nat}{R:Room}(h:ZQ w b R){n:Nat}(hn:n<9) :
  w.cell? ⟨b,9+n*5,none⟩=some (.bool (R.src n).there)∧w.cell? ⟨b,9+n*5+1,none⟩=some (.int .i64 (R.src n).num)∧w.cell? ⟨b,9+n*5+2,none⟩=some (.int .i64 (R.src n).own)∧w.cell? ⟨b,9+n*5+3,none⟩=some (R.src n).sv∧w.cell? ⟨b,9+n*5+4,none⟩=some (.bool (R.src n).ZJ):=
 ⟨by rw[h.cell Zo];exact congrArg some (I8 R (i:=0) hn Zo),by rw[h.cell Zo,I8 R hn Zo];rfl,by rw[h.cell Zo,I8 R hn Zo];rfl,by rw[h.cell Zo,I8 R hn Zo];rfl,by rw[h.cell Zo,I8 R hn Zo];rfl⟩
def ZQ.r8{w:World}{b:Nat}{R:Room}(h:ZQ w b R){p:Nat}(hp:p<9):w.cell? ⟨b,p,none⟩=some (.string (str (R.names p))):=by
 rw[h.cell Zo];unfold Wy;rw[ZU hp]
def VW(R:Room)(n p:Nat)(x:Sub):(R.ZO n p x).sub n p=x:=by simp[Room.ZO]
def L3(R:Room)(n p:Nat)(x y:Sub):(R.ZO n p x).ZO n p y=R.ZO n p y:=by
 unfold Room.ZO
 congr 1
 funext m q;dsimp only;split <;> rfl
def ZQ.Sj{w:World}{b:Nat}{R:Room}(h:ZQ w b R){n p i:Nat}(hn:n<9)(hp:p<9)(hi:i<3){x:Sub}{v:Value}(hx:∀j,j<3→SV x j=if j=i then v else SV (R.sub n p) j) :
  ZQ (w.setCell ⟨b,54+n*27+p*3+i,none⟩ v) b (R.ZO n p x):=by
 refine h.set Zo (fun j hj=>?_) h.rows;by_cases h1:j<54
 ·unfold Wy;rw[Z3 (by omega:¬j=54+n*27+p*3+i)];by_cases h2:j<9
  ·rw[ZU h2,ZU h2];rfl
  ·rw[Z3 h2,Z3 h2,ZU h1,ZU h1];rfl
 ·unfold Wy;rw[Z3 (by omega:¬j<9),Z3 h1,Z3 (by omega:¬j<9),Z3 h1];by_cases h3:(j-54)/27=n∧(j-54)%27/3=p
  ·have e:(R.ZO n p x).sub ((j-54)/27) ((j-54)%27/3)=x:=by simp[Room.ZO,h3]
   rw[e,h3.1,h3.2,hx _ Zo];have:((j-54)%3=i)↔(j=54+n*27+p*3+i):=by omega
   by_cases h4:(j-54)%3=i
   ·rw[ZU h4,ZU (this.1 h4)]
   ·rw[Z3 h4,Z3 (fun e=>h4 (this.2 e))]
  ·have e:(R.ZO n p x).sub ((j-54)/27) ((j-54)%27/3)=R.sub ((j-54)/27) ((j-54)%27/3):=by simp[Room.ZO,h3]
   rw[e,Z3 Zo]
def ZQ.ZO{w:World}{b:Nat}{R:Room}(h:ZQ w b R){n p:Nat}(hn:n<9)(hp:p<9)(x:Sub) :
  ZQ (((w.setCell ⟨b,54+n*27+p*3,none⟩ (.bool x.there)).setCell ⟨b,54+n*27+p*3+1,none⟩ (.bool x.ZV)).setCell ⟨b,54+n*27+p*3+2,none⟩ (.int .i64 x.want)) b (R.ZO n p x):=by
 have h1:=h.Sj hn hp (i:=0) Zo (x:={R.sub n p with there:=x.there}) (v:= .bool x.there) (by intro j hj;unfold SV;by_cases h0:j=0 <;> simp[h0])
 have h2:=h1.Sj hn hp (i:=1) Zo (x:={R.sub n p with there:=x.there,ZV:=x.ZV}) (v:= .bool x.ZV) (by
  intro j hj;rw[VW];unfold SV;by_cases h0:j=0 <;> by_cases h1:j=1 <;> simp[h0,h1])
 have h3:=h2.Sj hn hp (i:=2) Zo (x:=x) (v:= .int .i64 x.want) (by
  intro j hj;rw[VW];unfold SV;by_cases h0:j=0 <;> by_cases h1:j=1 <;> simp[h0,h1];omega)
 rw[L3,L3]at h3;exact h3
def VI(l:List Int):(bd l).length=l.length:=Te _
def QE(l:List Int):∀u∈bd l,u.oneCell'=true:=by
 intro u hu;obtain⟨x,_,rfl⟩:=vS.1 hu;rfl
def M0{w:World}{v:Value}{l:List Int}(h:Row w 66 v l.length (bd l))(hl:0<l.length):∃g off cap,v = .slice (some ⟨g,off,none⟩) l.length cap∧l.length≤cap∧cap≤maxLen∧g<w.heap.size ∧
  ∀j,j<l.length→w.cell? ⟨g,off+j,none⟩=some (.int .u32 (l.getD j 0)):=by
 exact aR
def OY{w:World}{v:Value}{l:List Int}(h:XG w v l.length (bd l))(hl:0<l.length):∃g off cap,v = .slice (some ⟨g,off,none⟩) l.length cap∧l.length≤cap∧cap≤maxLen∧g<w.heap.size ∧
  ∀j,j<l.length→w.cell? ⟨g,off+j,none⟩=some (.int .u32 (l.getD j 0)):=by
 exact aR
def WU:Elem prog 72 3 1 8:=⟨underlying72,⟨.int .i64 0,by kernel_rfl,rfl⟩,by decide⟩
def bm:Elem prog 29 66 1 4:=⟨underlying29,⟨.int .u32 0,by kernel_rfl,rfl⟩,by decide⟩
def Xt:Elem prog 98 158 5 40:=⟨underlying98,⟨.agg (Qh 0 0 0 0 0),by kernel_rfl,rfl⟩,by decide⟩
def Z7(t:Yz):List Value:=(Qh t.kind t.peer t.source t.ZC t.Yi)
def VN(t:Yz):Value:= .agg (Qh t.kind t.peer t.source t.ZC t.Yi)
abbrev Yx(w:World)(v:Value)(l:List Yz):Prop:=Row w 158 v l.length (l.flatMap Z7)
def ints(l:List Nat):List Value:=l.map fun(n:Nat)=>Value.int .i64 (n:Int)
def dd(w:World)(e:TypeId)(n:Nat)(xs:List Value)(hn:n≤maxLen):Row (w.alloc (.cells xs.toArray e)) e (.slice (some ⟨w,0,none⟩) n n) n xs:=
 ⟨_,n,rfl,Zq _,hn,(fun h=>by cases h),WG ⟨_,0,xs.toArray,(0,0),rfl,(by show(w.heap.push _)[w.heap.size]?=_;simp),fun j _=>by simp⟩⟩
def Yn(w:World)(e:TypeId)(n m:Nat)(xs:List Value)(hn:n≤maxLen)(hm:m=w.heap.size):Row (w.alloc (.cells xs.toArray e)) e (.slice (some ⟨m,0,none⟩) n n) n xs:=by
 subst hm;exact dd w e n xs hn
def Row.vT{B:Nat}{S:Nat→Prop}{w w':World}{e:TypeId}{v:Value}{n:Nat}{xs:List Value}(h:Row w e v n xs)(hf:Fr B S w w')(hB:w.heap.size≤B)(hS:∀k c fr,S k→w.heap[k]?≠some (.cells c e fr)):Row w' e v n xs:=h.fr hf hB hS
structure Rj where
 i:Rc
 bv:Value
 gv:Value
 pv:Value
def YJ(x:Rj):List Value:=[.int .i64 x.i.kind,.int .u32 x.i.Yi,.int .u64 x.i.Ez,.int .u32 x.i.time,.int .u32 x.i.Wm,.int .u32 x.i.octets,x.bv,x.gv,.int .u32 x.i.XS,x.pv]
structure TW(w:World)(x:Rj):Prop where
 b:Row w 228 x.bv x.i.blocks.length (x.i.blocks.flatMap WW)
 g:Row w 66 x.gv x.i.gone.length (YF x.i.gone)
 p:Row w 226 x.pv x.i.Xm.length (x.i.Xm.flatMap VY)
structure LL(w:World)(v:Value)(L:List Rj):Prop where
 row:Row w 173 v L.length (L.flatMap YJ)
 each:∀x∈L,TW w x
def YB(w:World)(v:Value)(l:List Rc):Prop:=∃L:List Rj,l=L.map (·.i)∧LL w v L
def TW.below{w w':World}{x:Rj}(h:TW w x)(hb:Below w w w'):TW w' x:=⟨h.b.below hb,h.g.below hb,h.p.below hb⟩
def YB.below{w w':World}{v:Value}{l:List Rc}(h:YB w v l)(hb:Below w w w'):YB w' v l:=by
 obtain⟨L,h1,h2,h3⟩:=h;exact⟨L,h1,h2.below hb,fun x hx=>(h3 x hx).below hb⟩
def YB.nil(w:World):YB w (.slice none 0 0) []:=⟨[],rfl,Row.nil _ _,fun _ h=>by cases h⟩
def LH(w:World)(S:Nat→Prop):Prop:=∀k,S k→∃c t fr,w.heap[k]?=some (.cells c t fr)∧t≠228∧t≠66∧t≠226∧t≠173∧t≠5∧t≠158∧t≠32
def LH.ne{w:World}{S:Nat→Prop}(h:LH w S){e:TypeId}(he:e=228∨e=66∨e=226∨e=173∨e=5∨e=158∨e=32):∀k c fr,S k→w.heap[k]?≠some (.cells c e fr):=by
 intro k c fr hk hc;obtain⟨c',t,fr',h1,h2⟩:=h k hk;rw[h1]at hc;injection hc with hc
 injection hc with _ hc
 subst hc;obtain⟨q1,q2,q3,q4,q5,q6,q7⟩:=h2;rcases he with h|h|h|h|h|h|h
 ·exact q1 h
 ·exact q2 h
 ·exact q3 h
 ·exact q4 h
 ·exact q5 h
 ·exact q6 h
 ·exact q7 h
def YB.fr{w w':World}{v:Value}{l:List Rc}{S:Nat→Prop}(h:YB w v l)(hf:Fr w S w w')(hS:LH w S):YB w' v l:=by
 obtain⟨L,h1,h2,h3⟩:=h;exact⟨L,h1,Row.fr h2 hf (Zq _) (hS.ne Zi),fun x hx=>⟨Row.fr (h3 x hx).b hf (Zq _) (hS.ne Zi),Row.fr (h3 x hx).g hf (Zq _) (hS.ne Zi),Row.fr (h3 x hx).p hf (Zq _) (hS.ne Zi)⟩⟩
def Row.form{w:World}{e:TypeId}{v:Value}{n:Nat}{xs:List Value}(h:Row w e v n xs):∃a c,v = .slice a n c:=by
 obtain⟨a,c,h,_⟩:=h;exact⟨a,c,h⟩
def YB.form{w:World}{v:Value}{l:List Rc}(h:YB w v l):∃a c,v = .slice a l.length c:=by
 obtain⟨L,h1,h2,_⟩:=h;obtain⟨a,c,h⟩:=Row.form h2;exact⟨a,c,by rw[h,h1,Te]⟩
def VT(p:JR)(d:Eu)(cv ev pv:Value):List Value:=[.bool p.Xq,.int .i64 p.type,.int .u16 p.seq,.int .u32 p.time,.int .u32 p.Yi,cv,.bool p.Xo,.int .u16 p.XZ,ev,pv,.int .i64 p.pad,.int .i64 d.ZC,.bool d.key,.bool d.start,.int .u16 d.frame]
structure Vp(w:World)(p:JR)(cv ev pv:Value):Prop where
 c:Row w 66 cv p.Vs.length (YF p.Vs)
 e:Row w 5 ev p.ext.length (Re p.ext)
 p:Row w 5 pv p.Zz.length (Re p.Zz)
def Vp.below{w w':World}{p:JR}{cv ev pv:Value}(h:Vp w p cv ev pv)(hb:Below w w w'):Vp w' p cv ev pv:=⟨h.c.below hb,h.e.below hb,h.p.below hb⟩
def Vp.fr{w w':World}{p:JR}{cv ev pv:Value}{S:Nat→Prop}(h:Vp w p cv ev pv)(hf:Fr w S w w')(hS:LH w S):Vp w' p cv ev pv:=
 ⟨Row.fr h.c hf (Zq _) (hS.ne Zi),Row.fr h.e hf (Zq _) (hS.ne Zi),Row.fr h.p hf (Zq _) (hS.ne Zi)⟩
def Vp.nil(w:World):Vp w WT (.slice none 0 0) (.slice none 0 0) (.slice none 0 0):=⟨Row.nil _ _,Row.nil _ _,Row.nil _ _⟩
def Vp.form{w:World}{p:JR}{cv ev pv:Value}(h:Vp w p cv ev pv):(∃a c,cv = .slice a p.Vs.length c)∧(∃a c,ev = .slice a p.ext.length c)∧(∃a c,pv = .slice a p.Zz.length c):=⟨Row.form h.c,Row.form h.e,Row.form h.p⟩
def sI(w:World)(v:Value):Ev→Prop
 | .none=>v = .nilIface
 | .XS p d=>∃cv ev pv,v = .iface 97 (.agg (VT p d cv ev pv).toArray)∧Vp w p cv ev pv
 | .X4 l=>∃iv,v = .iface 213 (.agg #[iv])∧YB w iv l
def sI.below{w w':World}{v:Value}{e:Ev}(h:sI w v e)(hb:Below w w w'):sI w' v e:=by
 cases e with
 | none=>exact h
 | XS p d=>obtain⟨cv,ev,pv,h1,h2⟩:=h;exact⟨cv,ev,pv,h1,h2.below hb⟩
 | X4 l=>obtain⟨iv,h1,h2⟩:=h;exact⟨iv,h1,h2.below hb⟩
def sB(T:Taken)(cv ev pv iv tv:Value):List Value:=[.int .i64 T.XR.kind,.int .i64 T.XR.source,.int .i64 T.XR.Nt,.int .i64 T.XR.err]++VT T.XM T.WI cv ev pv++[iv,tv,.int .i64 T.unknown]
structure X8(w:World)(cs:List Value)(T:Taken):Prop where
 ex:∃cv ev pv iv tv,cs=sB T cv ev pv iv tv∧Vp w T.XM cv ev pv∧YB w iv T.items∧Yx w tv T.turns
def X8.size{w:World}{cs:List Value}{T:Taken}(h:X8 w cs T):cs.length=22:=by
 obtain⟨cv,ev,pv,iv,tv,rfl,_⟩:=h.ex;rfl
def X8.one{w:World}{cs:List Value}{T:Taken}(h:X8 w cs T):cs.toArray.all (·.oneCell')=true:=by
 obtain⟨cv,ev,pv,iv,tv,rfl,h1,h2,h3⟩:=h.ex;obtain⟨⟨_,_,rfl⟩,⟨_,_,rfl⟩,⟨_,_,rfl⟩⟩:=h1.form;obtain⟨_,_,rfl⟩:=h2.form;obtain⟨_,_,rfl⟩:=Row.form h3;kernel_rfl
def X8.below{w w':World}{cs:List Value}{T:Taken}(h:X8 w cs T)(hb:Below w w w'):X8 w' cs T:=by
 obtain⟨cv,ev,pv,iv,tv,h1,h2,h3,h4⟩:=h.ex;exact⟨cv,ev,pv,iv,tv,h1,h2.below hb,h3.below hb,h4.below hb⟩
def X8.fr{w w':World}{cs:List Value}{T:Taken}{S:Nat→Prop}(h:X8 w cs T)(hf:Fr w S w w')(hS:LH w S):X8 w' cs T:=by
 obtain⟨cv,ev,pv,iv,tv,h1,h2,h3,h4⟩:=h.ex;exact⟨cv,ev,pv,iv,tv,h1,h2.fr hf hS,h3.fr hf hS,Row.fr h4 hf (Zq _) (hS.ne Zi)⟩
def X8.refused(w:World)(k e:Int):X8 w (sB (Ya k e) (.slice none 0 0) (.slice none 0 0) (.slice none 0 0) (.slice none 0 0) (.slice none 0 0)) (Ya k e):=
 ⟨_,_,_,_,_,rfl,Vp.nil w,YB.nil w,Row.nil _ _⟩
structure X5(w:World)(g b:Nat)(R:Room)(ep:Int):Prop where
 Y8:w.heap[g]?=some (.cells (Qk (some ⟨b,0,none⟩) ep) 131 (0,0))
 room:ZQ w b R
def X5.cells{w:World}{g b:Nat}{R:Room}{ep:Int}(h:X5 w g b R ep):w.cell? ⟨g,0,none⟩=some (.pointer (some ⟨b,0,none⟩))∧w.cell? ⟨g,1,none⟩=some (.int .i64 ep)∧w.frozen? ⟨g,1,none⟩=false∧g<w.heap.size:=
 ⟨cell_of h.Y8 0,cell_of h.Y8 1,ZP h.Y8 1,ZY h.Y8⟩
def X5.below{w w':World}{g b:Nat}{R:Room}{ep:Int}(h:X5 w g b R ep)(hb:Below w w w'):X5 w' g b R ep:=⟨by rw[hb.block g (ZY h.Y8)];exact h.Y8,h.room.below hb⟩
def X5.apart{w:World}{g b:Nat}{R:Room}{ep:Int}(h:X5 w g b R ep):LH w (fun k=>k=b∨k=g):=by
 rintro k (rfl|rfl)
 ·obtain⟨c,hc,_,_⟩:=h.room.cells;exact⟨c,_,_,hc,by decide,by decide,by decide,by decide,by decide,by decide,by decide⟩
 ·exact⟨_,_,_,h.Y8,by decide,by decide,by decide,by decide,by decide,by decide,by decide⟩
