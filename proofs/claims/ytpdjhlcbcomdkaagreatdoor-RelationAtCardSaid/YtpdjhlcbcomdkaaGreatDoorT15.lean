/- Part of a proof. -/
import Derived.Test.YtpdjhlcbcomdkaaGreatDoorT14
set_option linter.unusedVariables false
set_option linter.unusedSimpArgs false
set_option maxRecDepth 100000
set_option maxHeartbeats 16000000
open Go Go.Q Go.Qr Go.Proofs.Tryz
namespace Go.Proofs.rI
section
variable {α κ:Type} (key:α→κ)
def Nt(l:List α):Prop:=(l.map key).Nodup
theorem Pk{x:α}{l:List α}:Nt key (x :: l)↔(∀y∈l,key y≠key x)∧Nt key l:=by
 unfold Nt;rw[List.map_cons,List.nodup_cons];constructor
 ·rintro⟨h1,h2⟩;exact⟨fun y hy e=>h1 (by rw[←e];exact List.mem_map_of_mem hy),h2⟩
 ·rintro⟨h1,h2⟩;refine⟨fun h=>?_,h2⟩;obtain⟨y,hy,e⟩:=wI.1 h;exact h1 y hy e
theorem Lx{l:List α}(hu:Nt key l)(i:Nat):Nt key (l.eraseIdx i):=
 List.Nodup.sublist ((List.eraseIdx_sublist l i).map key) hu
theorem zF{l:List α}(hu:Nt key l){i:Nat}(hi:i<l.length){y:α}(hy:key y=key l[i]):Nt key (l.set i y):=by
 unfold Nt at *
 have:(l.set i y).map key=l.map key:=by
  rw[List.map_set,hy];have:key l[i]=(l.map key)[i]'(by simpa using hi):=by simp
  rw[this,List.set_getElem_self]
 rw[this];exact hu
end
section
variable {α κ:Type} [DecidableEq κ] (key:α→κ)
def lk(l:List α)(k:κ):Option α:=l.find? fun x=>decide (key x=k)
theorem Rn(x:α)(l:List α)(k:κ):lk key (x :: l) k=if key x=k then some x else lk key l k:=by
 unfold lk;by_cases h:key x=k <;> simp[h]
theorem JA(l:List α)(x:α)(k:κ):lk key (l++[x]) k=(lk key l k).or (if key x=k then some x else none):=by
 unfold lk;rw[List.find?_append];by_cases h:key x=k <;> simp[h]
theorem Bk{l:List α}{k:κ}:lk key l k=none↔∀x∈l,key x≠k:=by
 unfold lk;rw[List.find?_eq_none];simp
theorem JB{l:List α}(hu:Nt key l){x:α}(hx:x∈l):lk key l (key x)=some x:=by
 induction l with
 | nil=>cases hx
 | cons y l ih=>
  rw[Rn];obtain⟨h1,h2⟩:=(Pk key).1 hu;rcases J9.1 hx with rfl|hx
  ·rw[ZU rfl]
  ·rw[Z3 (fun e=>h1 x hx e.symm)];exact ih h2 hx
theorem Ni{l:List α}{x:α}(hu:Nt key l)(h:lk key l (key x)=none):Nt key (l++[x]):=by
 unfold Nt at *
 rw[Nv,List.nodup_append];refine⟨hu,by simp,?_⟩;intro a ha b hb e;obtain⟨y,hy,rfl⟩:=wI.1 ha;simp at hb;subst hb;exact(Bk key).1 h y hy e
theorem I0{l:List α}{k:κ}(h:lk key l k=none):l.findIdx? (fun x=>decide (key x=k))=none:=by
 rw[List.findIdx?_eq_none_iff];intro x hx;simpa using (Bk key).1 h x hx
theorem I1{l:List α}{k:κ}{x:α}(h:lk key l k=some x):∃(i:Nat) (hi:i<l.length),l.findIdx? (fun x=>decide (key x=k))=some i∧l[i]=x:=by
 induction l with
 | nil=>cases h
 | cons y l ih=>
  rw[Rn]at h;by_cases e:key y=k
  ·rw[ZU e]at h;cases h;exact⟨0,by simp,by simp[List.findIdx?_cons,e],rfl⟩
  ·rw[Z3 e]at h;obtain⟨i,hi,h1,h2⟩:=ih h;exact⟨i+1,by simpa using hi,by simp[List.findIdx?_cons,e,h1],by simpa using h2⟩
theorem Kl:∀ {l:List α},Nt key l→∀ {i:Nat} (hi:i<l.length) (k:κ),lk key (l.eraseIdx i) k=if k=key l[i]then none else lk key l k
 | [],_,i,hi,_=>by simp at hi
 | x :: l,hu,0,_,k=>by
  obtain⟨h1,h2⟩:=(Pk key).1 hu;simp only[List.eraseIdx_cons_zero,List.getElem_cons_zero];rw[Rn];by_cases e:k=key x
  ·subst e;rw[ZU rfl,Bk];exact h1
  ·rw[Z3 e,Z3 (fun h=>e h.symm)]
 | x :: l,hu,i+1,hi,k=>by
  obtain⟨h1,h2⟩:=(Pk key).1 hu;simp only[List.eraseIdx_cons_succ,List.getElem_cons_succ];rw[Rn,Rn,Kl h2 (by simpa using hi) k];by_cases e:key x=k
  ·subst e;rw[ZU rfl,ZU rfl,Z3];exact fun e=>h1 _ (OC (by simpa using hi)) e.symm
  ·rw[Z3 e,Z3 e]
theorem vJ:∀ {l:List α},Nt key l→∀ {i:Nat} (hi:i<l.length) {y:α},key y=key l[i]→∀k:κ,lk key (l.set i y) k=if k=key y then some y else lk key l k
 | [],_,i,hi,_,_,_=>by simp at hi
 | x :: l,hu,0,_,y,hy,k=>by
  simp only[List.set_cons_zero,List.getElem_cons_zero]at *
  rw[Rn,Rn,hy];by_cases e:key x=k
  ·subst e;rw[ZU rfl,ZU rfl]
  ·rw[Z3 e,Z3 (fun h=>e h.symm),Z3 e]
 | x :: l,hu,i+1,hi,y,hy,k=>by
  obtain⟨h1,h2⟩:=(Pk key).1 hu;simp only[List.set_cons_succ,List.getElem_cons_succ]at *
  rw[Rn,Rn,vJ h2 (by simpa using hi) hy k];by_cases e:key x=k
  ·subst e;rw[ZU rfl,ZU rfl,Z3];rw[hy];exact fun e=>h1 _ (OC (by simpa using hi)) e.symm
  ·rw[Z3 e,Z3 e]
end
end Go.Proofs.rI
namespace Go.Proofs.Rm
open Go.Proofs.ND (may key)
open Go.Proofs.rI
def uk(x:Vn):Int×Int:=(x.peer,x.source)
def Vq(R:Room)(n:Int):Bool:=VI n 9&&(R.src n.toNat).there
def Pw(R:Room)(p:Int):Vd:=⟨p,R.names p.toNat⟩
def Ux(R:Room)(n:Int):Wd:=⟨n,(R.src n.toNat).own,(R.src n.toNat).ss,(R.src n.toNat).ZN⟩
def UE(R:Room)(p n:Int):Vn:=⟨p,n,(R.sub n.toNat p.toNat).want,(R.sub n.toNat p.toNat).ZV⟩
structure WA(T:ZO)(R:Room):Prop where
 up:Nt Vd.num T.Zz
 us:Nt Wd.num T.Yj
 uu:Nt uk T.ZY
 pe:∀p,lk Vd.num T.Zz p=if Y_ R p then some (Pw R p)else none
 sr:∀n,lk Wd.num T.Yj n=if Vq R n then some (Ux R n)else none
 su:∀p n,lk uk T.ZY (p,n)=if Zp R p n then some (UE R p n)else none
theorem F9(n:Int):(fun x:Vd=>x.num==n)=fun x=>decide (Vd.num x=n):=by funext x;rw[Bool.eq_iff_iff];simp
theorem DK(n:Int):(fun x:Wd=>x.num==n)=fun x=>decide (Wd.num x=n):=by funext x;rw[Bool.eq_iff_iff];simp
theorem DM(p n:Int):(fun x:Vn=>x.peer==p&&x.source==n)=fun x=>decide (uk x=(p,n)):=by
 funext x;rw[Bool.eq_iff_iff];simp[uk]
section
variable {T:ZO} {R:Room} (h:WA T R)
include h
theorem WA.Ga{p:Int}(hj:Y_ R p=true):∃(i:Nat) (hi:i<T.Zz.length),T.XD p=i∧T.Zz[i]=Pw R p:=by
 have:=h.pe p;rw[hj,ZU rfl]at this;obtain⟨i,hi,h1,h2⟩:=I1 _ this;exact⟨i,hi,by unfold ZO.XD findAt;rw[F9,h1],h2⟩
theorem WA.G5{p:Int}(hj:Y_ R p=false):T.XD p=-1:=by
 have:=h.pe p;rw[hj,Z3 Zd]at this;unfold ZO.XD findAt;rw[F9,I0 _ this]
theorem WA.ME{n:Int}(hj:Vq R n=true):∃(i:Nat) (hi:i<T.Yj.length),T.YV n=i∧T.Yj[i]=Ux R n:=by
 have:=h.sr n;rw[hj,ZU rfl]at this;obtain⟨i,hi,h1,h2⟩:=I1 _ this;exact⟨i,hi,by unfold ZO.YV findAt;rw[DK,h1],h2⟩
theorem WA.vP{n:Int}(hj:Vq R n=false):T.YV n=-1:=by
 have:=h.sr n;rw[hj,Z3 Zd]at this;unfold ZO.YV findAt;rw[DK,I0 _ this]
theorem WA.K_{p n:Int}(hj:Zp R p n=true):∃(i:Nat) (hi:i<T.ZY.length),T.Y6 p n=i∧T.ZY[i]=UE R p n:=by
 have:=h.su p n;rw[hj,ZU rfl]at this;obtain⟨i,hi,h1,h2⟩:=I1 _ this;exact⟨i,hi,by unfold ZO.Y6 findAt;rw[DM,h1],h2⟩
theorem WA.nD{p n:Int}(hj:Zp R p n=false):T.Y6 p n=-1:=by
 have:=h.su p n;rw[hj,Z3 Zd]at this;unfold ZO.Y6 findAt;rw[DM,I0 _ this]
theorem WA.XD(p:Int):0≤T.XD p↔Y_ R p=true:=by
 cases hj:Y_ R p
 ·rw[h.G5 hj];simp
 ·obtain⟨i,_,hi,_⟩:=h.Ga hj;rw[hi];simp
theorem WA.YV(n:Int):0≤T.YV n↔Vq R n=true:=by
 cases hj:Vq R n
 ·rw[h.vP hj];simp
 ·obtain⟨i,_,hi,_⟩:=h.ME hj;rw[hi];simp
theorem WA.Y6(p n:Int):0≤T.Y6 p n↔Zp R p n=true:=by
 cases hj:Zp R p n
 ·rw[h.nD hj];simp
 ·obtain⟨i,_,hi,_⟩:=h.K_ hj;rw[hi];simp
theorem WA.V6{n:Int}(hj:Vq R n=true):T.V6 n=Ux R n:=by
 obtain⟨i,hi,h1,h2⟩:=h.ME hj;unfold ZO.V6;rw[h1,Wl,Q_,Ve hi,h2];rfl
theorem WA.Ol{p n:Int}(hj:Zp R p n=true):T.Ol p n=UE R p n:=by
 obtain⟨i,hi,h1,h2⟩:=h.K_ hj;unfold ZO.Ol;rw[h1,Wl,Q_,Ve hi,h2];rfl
theorem WA.owner(n:Int):T.owner n=if Vq R n then(R.src n.toNat).own else 0:=by
 unfold ZO.owner;cases hj:Vq R n
 ·rw[h.vP hj];simp
 ·have:=(h.YV n).2 hj;rw[Z3 Zo,h.V6 hj];simp[Ux]
theorem WA.FD(n:Int):T.Zp n=ZY R n:=by
 unfold ZO.Zp ZO.Vs ZY;have e:(List.range 9)=0 :: (List.range 8).map (· + 1):=by decide
 rw[e,List.filter_cons,Z3 (by unfold Zp VI;simp)];apply List.filter_congr;intro p _;rw[Bool.eq_iff_iff,decide_eq_true_iff];exact h.Y6 p n
theorem WA.Bn{x:Wd}:x∈T.Yj↔∃n,Vq R n=true∧x=Ux R n:=by
 constructor
 ·intro hx;have h1:=JB Wd.num h.us hx;rw[h.sr]at h1;cases hj:Vq R x.num
  ·rw[hj]at h1;simp at h1
  ·rw[hj]at h1;simp at h1;exact⟨_,hj,h1.symm⟩
 ·rintro⟨n,hn,rfl⟩;obtain⟨i,hi,_,h2⟩:=h.ME hn;rw[←h2];exact OC hi
theorem WA.KH{x:Vd}:x∈T.Zz↔∃n,Y_ R n=true∧x=Pw R n:=by
 constructor
 ·intro hx;have h1:=JB Vd.num h.up hx;rw[h.pe]at h1;cases hj:Y_ R x.num
  ·rw[hj]at h1;simp at h1
  ·rw[hj]at h1;simp at h1;exact⟨_,hj,h1.symm⟩
 ·rintro⟨n,hn,rfl⟩;obtain⟨i,hi,_,h2⟩:=h.Ga hn;rw[←h2];exact OC hi
theorem WA.G0{x:Vn}:x∈T.ZY↔Zp R x.peer x.source=true∧x=UE R x.peer x.source:=by
 constructor
 ·intro hx;have h1:=JB uk h.uu hx;unfold uk at h1;rw[show(fun x:Vn=>(x.peer,x.source))=uk from rfl]at h1;rw[h.su]at h1;cases hj:Zp R x.peer x.source
  ·rw[hj]at h1;simp at h1
  ·rw[hj]at h1;simp at h1;exact⟨rfl,h1.symm⟩
 ·rintro⟨hn,hx⟩;obtain⟨i,hi,_,h2⟩:=h.K_ hn;rw[hx,←h2];exact OC hi
end
theorem Vr{R:Room}{n:Int}:Vq R n=true↔1≤n∧n<9∧(R.src n.toNat).there=true:=by
 unfold Vq;rw[UW,XO];constructor
 ·rintro⟨⟨a,b⟩,c⟩;exact⟨a,b,c⟩
 ·rintro⟨a,b,c⟩;exact⟨⟨a,b⟩,c⟩
theorem SD{R:Room}{p n:Int}:Zp R p n=true↔1≤p∧p<9∧1≤n∧n<9∧(R.sub n.toNat p.toNat).there=true:=by
 unfold Zp;rw[UW,UW,XO,XO];constructor
 ·rintro⟨⟨⟨a,b⟩,c,d⟩,e⟩;exact⟨a,b,c,d,e⟩
 ·rintro⟨a,b,c,d,e⟩;exact⟨⟨⟨a,b⟩,c,d⟩,e⟩
theorem Ut{R:Room}{p:Int}:Y_ R p=true↔1≤p∧p<9∧R.names p.toNat≠[]:=by
 unfold Y_;rw[UW,XO];constructor
 ·rintro⟨⟨a,b⟩,c⟩;exact⟨a,b,by intro e;rw[e]at c;cases c⟩
 ·rintro⟨a,b,c⟩;exact⟨⟨a,b⟩,by cases e:R.names p.toNat with|nil=>exact absurd e c|cons _ _=>rfl⟩
theorem WA.of_eq{T:ZO}{R:Room}(h:WA T R)(hI:Inv R)(x:Int):T.of x=of R x:=by
 cases ho:(of R x).2.2
 ·have hn:=sS.1 ho
  have h1:T.Rz x=-1:=by
   unfold ZO.Rz;apply R6;intro j hj;obtain⟨n,EO,ai⟩:=h.Bn.1 (OC hj);rw[ai,J8,ne_eq,List.contains_iff_mem];obtain⟨a,b,c⟩:=Vr.1 EO;exact hn n.toNat Zo c
  have h2:of R x=(0,0,false):=by
   have:∀k n,(RT R x k n).2.2=false→RT R x k n=(0,0,false):=by
    intro k
    induction k with
    | zero=>intro n _;rfl
    | succ k ih=>
     intro n hh;unfold RT at hh ⊢;split at hh
     ·cases hh
     ·rename_i hc;rw[Z3 hc];exact ih _ hh
   exact this 9 0 ho
  unfold ZO.of;rw[h1,ZU Zd,h2]
 ·obtain⟨m,hm,ht,hx,he⟩:=PI ho;obtain⟨Bc,_⟩:=hI.YV m ht;have hs:Vq R (m:Int)=true:=Vr.2 ⟨Zo,Zo,by rw[Wl];exact ht⟩;obtain⟨i,hi,h1,h2⟩:=h.ME hs
  have hge:0≤T.Rz x:=by
   unfold ZO.Rz;rw[NZ];exact⟨T.Yj[i],OC hi,by rw[h2,List.contains_iff_mem];unfold Ux;rw[Wl];exact hx⟩
  obtain⟨k,hk,RX,hp,_⟩:=XE hge;have RX:T.Rz x=k:=RX;obtain⟨n,EO,ai⟩:=h.Bn.1 (OC hk);rw[ai,List.contains_iff_mem]at hp;obtain⟨a,b,c⟩:=Vr.1 EO;have UT:=hI.apart n.toNat m x c ht hp hx;have UT:n=(m:Int):=by omega
  unfold ZO.of;rw[Z3 Zo,RX,Wl,Q_,Ve hk,Option.getD_some,ai,UT,he];unfold Ux;rw[Wl]
theorem WA.nJ{T:ZO}{R:Room}(h:WA T R)(hI:Inv R)(l:List Int):T.Vu l=Vu R l:=by
 funext i;unfold ZO.Vu Vu;rw[h.of_eq hI,Bool.or_comm]
theorem FT(s:Wd)(q:Int):PE s q=true↔0≤q∧q<s.ss.length:=by unfold PE;simp
theorem WA.zV{T:ZO}{R:Room}(h:WA T R)(hI:Inv R)(o:Op):T.XW o=XW R o:=by
 unfold ZO.XW XW;by_cases k1:o.kind<2∨12<o.kind
 ·rw[ZU k1,ZU k1]
 rw[Z3 k1,Z3 k1];by_cases p1:o.peer<1∨8<o.peer
 ·rw[ZU p1,ZU (show((!VI o.peer 9)=true) by unfold VI;simp;omega)]
 have hp:VI o.peer 9=true:=(XO _ _).2 Zo;rw[Z3 p1,Z3 (show¬((!VI o.peer 9)=true) by rw[hp];simp)];by_cases k2:o.kind=2
 ·rw[ZU k2,ZU k2];unfold L_;cases hj:Y_ R o.peer
  ·rw[h.G5 hj,Z3 (show¬(0:Int) ≤ -1 by decide),Z3 (show¬(false=true) by decide)];by_cases hm:may o.name=true
   ·have e:(T.Zz.any fun x=>decide (key x.name=key o.name))=(List.range 9).any (sameKey R o):=by
     rw[Bool.eq_iff_iff,List.any_eq_true,List.any_eq_true];constructor
     ·rintro⟨x,hx,hk⟩;obtain⟨n,hn,rfl⟩:=h.KH.1 hx;obtain⟨a,b,c⟩:=Ut.1 hn;refine⟨n.toNat,by rw[List.mem_range];omega,?_⟩;unfold sameKey;rw[UW];refine⟨?_,hk⟩;cases e:R.names n.toNat with
      | nil=>exact absurd e c
      | cons _ _=>rfl
     ·rintro⟨n,hn,hk⟩;unfold sameKey at hk;rw[UW]at hk;have WN:R.names n≠[]:=by intro e;rw[e]at hk;exact absurd hk.1 Zd
      rw[List.mem_range]at hn;have h0:n≠0:=by rintro rfl;exact WN hI.QN.1
      exact⟨Pw R n,h.KH.2 ⟨n,Ut.2 ⟨Zo,Zo,by rw[Wl];exact WN⟩,rfl⟩,by unfold Pw;rw[Wl];exact hk.2⟩
    rw[Z3 (show¬((!may o.name)=true) by rw[hm];simp),Z3 (show¬((!may o.name)=true) by rw[hm];simp),e]
   ·rw[Bool.not_eq_true]at hm;rw[ZU (show((!may o.name)=true) by rw[hm];rfl),ZU (show((!may o.name)=true) by rw[hm];rfl)]
  ·rw[ZU ((h.XD _).2 hj),ZU rfl]
 rw[Z3 k2,Z3 k2];cases hj:Y_ R o.peer
 ·rw[h.G5 hj,ZU Zd,ZU Zd]
 have:=(h.XD o.peer).2 hj;rw[Z3 (show¬T.XD o.peer<0 by omega),Z3 (show¬((!true)=true) by decide)];by_cases k3:o.kind=3
 ·rw[ZU k3,ZU k3]
 rw[Z3 k3,Z3 k3];by_cases s1:o.source<1∨8<o.source
 ·rw[ZU s1,ZU (show((!VI o.source 9)=true) by unfold VI;simp;omega)]
 have hs:VI o.source 9=true:=(XO _ _).2 Zo;rw[Z3 s1,Z3 (show¬((!VI o.source 9)=true) by rw[hs];simp)];have GR:Vq R o.source=(R.src o.source.toNat).there:=by unfold Vq;rw[hs];rfl
 by_cases k4:o.kind=4
 ·rw[ZU k4,ZU k4];unfold ZO.TG VR;have e1:(0≤T.YV o.source)=((R.src o.source.toNat).there=true):=by rw[←GR];exact propext (h.YV _)
  simp only[e1,h.nJ hI]
 rw[Z3 k4,Z3 k4];cases ht:(R.src o.source.toNat).there
 ·rw[ht]at GR;rw[h.vP GR,ZU Zd,ZU Zd]
 rw[ht]at GR;have:=(h.YV o.source).2 GR;rw[Z3 Zo,Z3 Zd,h.V6 GR];have hh:Zp R o.peer o.source=(R.sub o.source.toNat o.peer.toNat).there:=by unfold Zp;rw[hp,hs];rfl
 unfold ZO.Xi about;have o1:(Ux R o.source).own=(R.src o.source.toNat).own:=rfl;have o2:(Ux R o.source).ZN=(R.src o.source.toNat).ZN:=rfl;simp only[o1,o2];by_cases k5:o.kind=5∨o.kind=8∨o.kind=9
 ·rw[ZU k5,ZU k5];first|done|rfl
 rw[Z3 k5,Z3 k5]
 have elay:ZI R o=if PE (Ux R o.source) o.ZI=true then 0 else 5:=by
  unfold ZI;by_cases hl:o.ZI<0∨((R.src o.source.toNat).ss.length:Int)≤o.ZI
  ·rw[ZU hl,Z3 (by rw[FT];unfold Ux;dsimp only;omega)]
  ·rw[Z3 hl,ZU (by rw[FT];unfold Ux;dsimp only;omega)]
 by_cases k6:o.kind=6
 ·rw[ZU k6,ZU k6];have e2:(0≤T.Y6 o.peer o.source)=((R.sub o.source.toNat o.peer.toNat).there=true):=by rw[←hh];exact propext (h.Y6 _ _)
  simp only[e2,elay]
 rw[Z3 k6,Z3 k6];unfold heard;dsimp only;cases wN:(R.sub o.source.toNat o.peer.toNat).there
 ·rw[wN]at hh;rw[h.nD hh,ZU Zd,ZU Zd]
 rw[wN]at hh;have:=(h.Y6 o.peer o.source).2 hh;rw[Z3 (show¬T.Y6 o.peer o.source<0 by omega),Z3 (show¬((!true)=true) by decide),h.Ol hh,elay];dsimp only[UE];by_cases k10:o.kind=10
 ·by_cases hp:(R.sub o.source.toNat o.peer.toNat).ZV=true <;> simp[k10,hp]
 by_cases k11:o.kind=11
 ·by_cases hp:(R.sub o.source.toNat o.peer.toNat).ZV=true <;> simp[k11,hp]
 by_cases k12:o.kind=12
 ·cases hl:PE (Ux R o.source) o.ZI <;> simp[k12]
 ·simp[k10,k11,k12]
theorem JP(R:Room){n p:Nat}(hn:1≤n∧n<9)(hp:1≤p∧p<9)(x:Sub)(q m:Int) :
  (if Zp (R.ZQ n p x) q m then some (UE (R.ZQ n p x) q m)else none)=if(q,m)=((p:Int),(n:Int))then(if x.there then some (⟨p,n,x.want,x.ZV⟩:Vn)else none)else(if Zp R q m then some (UE R q m)else none):=by
 by_cases e:(q,m)=((p:Int),(n:Int))
 ·cases e;rw[ZU rfl]
  have h1:Zp (R.ZQ n p x) p n=x.there:=by
   unfold Zp;rw[Wl,Wl,V_,(XO _ _).2 Zo,(XO _ _).2 Zo];rfl
  have h2:UE (R.ZQ n p x) p n=⟨p,n,x.want,x.ZV⟩:=by unfold UE;rw[Wl,Wl,V_]
  rw[h1,h2]
 ·rw[Z3 e];by_cases hi:VI q 9=true∧VI m 9=true
  ·have hq:=(XO _ _).1 hi.1;have hm:=(XO _ _).1 hi.2
   have hs:(R.ZQ n p x).sub m.toNat q.toNat=R.sub m.toNat q.toNat:=by
    rw[VL,Z3];rintro⟨h1,h2⟩;apply e;rw[Prod.mk.injEq];omega
   unfold Zp UE;rw[hs]
  ·have hf:∀R':Room,Zp R' q m=false:=fun R'=>by
    rw[J8,ne_eq,SD];rintro⟨a,b,c,d,_⟩;exact hi ⟨(XO _ _).2 ⟨a,b⟩,(XO _ _).2 ⟨c,d⟩⟩
   rw[hf,hf];rfl
theorem JN(R:Room){n:Nat}(hn:1≤n∧n<9)(s:Src)(m:Int) :
  (if Vq (R.Y0 n s) m then some (Ux (R.Y0 n s) m)else none)=if m=(n:Int)then(if s.there then some (⟨n,s.own,s.ss,s.ZN⟩:Wd)else none)else(if Vq R m then some (Ux R m)else none):=by
 by_cases e:m=(n:Int)
 ·cases e;rw[ZU rfl];have h0:(R.Y0 n s).src n=s:=by rw[Wq,ZU rfl]
  have h1:Vq (R.Y0 n s) n=s.there:=by unfold Vq;rw[Wl,h0,(XO _ _).2 Zo];rfl
  have h2:Ux (R.Y0 n s) n=⟨n,s.own,s.ss,s.ZN⟩:=by unfold Ux;rw[Wl,h0]
  rw[h1,h2]
 ·rw[Z3 e];by_cases hi:VI m 9=true
  ·have hm:=(XO _ _).1 hi;have hs:(R.Y0 n s).src m.toNat=R.src m.toNat:=by rw[Wq,Z3 Zo]
   unfold Vq Ux;rw[hs]
  ·have hf:∀R':Room,Vq R' m=false:=fun R'=>by unfold Vq;rw[J8,ne_eq,UW];exact fun h=>hi h.1
   rw[hf,hf];rfl
theorem F8(R:Room){p:Nat}(hp:1≤p∧p<9)(s:List UInt8)(q:Int) :
  (if Y_ (R.setName p s) q then some (Pw (R.setName p s) q)else none)=if q=(p:Int)then(if s≠[]then some (⟨p,s⟩:Vd)else none)else(if Y_ R q then some (Pw R q)else none):=by
 by_cases e:q=(p:Int)
 ·cases e;rw[ZU rfl];have h0:(R.setName p s).names p=s:=by rw[X6,ZU rfl]
  have h2:Pw (R.setName p s) p=⟨p,s⟩:=by unfold Pw;rw[Wl,h0]
  rw[h2];by_cases hs:s=[]
  ·rw[Z3 (by rw[Ut,Wl,h0];rintro⟨_,_,h⟩;exact h hs),Z3 (fun h=>h hs)]
  ·rw[ZU (by rw[Ut,Wl,h0];exact⟨Zo,Zo,hs⟩),ZU hs]
 ·rw[Z3 e];by_cases hi:VI q 9=true
  ·have hm:=(XO _ _).1 hi;have hs:(R.setName p s).names q.toNat=R.names q.toNat:=by rw[X6,Z3 Zo]
   unfold Y_ Pw;rw[hs]
  ·have hf:∀R':Room,Y_ R' q=false:=fun R'=>by unfold Y_;rw[J8,ne_eq,UW];exact fun h=>hi h.1
   rw[hf,hf];rfl
section
variable {T:ZO} {R:Room} (h:WA T R)
include h
theorem WA.WJ{p n:Nat}(hh:Zp R p n=true):WA (T.WJ p n) (R.ZQ n p U9):=by
 obtain⟨i,hi,h1,h2⟩:=h.K_ hh;obtain⟨a,b,c,d,_⟩:=SD.1 hh;have he:(T.WJ p n).ZY=T.ZY.eraseIdx i:=by unfold ZO.WJ;rw[h1,Wl]
 refine⟨h.up,h.us,by rw[he];exact Lx _ h.uu i,h.pe,h.sr,fun q m=>?_⟩;rw[he,Kl uk h.uu hi,JP R Zo Zo,h2,h.su];rfl
theorem WA.ZQ{p n:Nat}(hh:Zp R p n=true)(x:Sub)(hx:x.there=true):WA (T.ZQ p n ⟨p,n,x.want,x.ZV⟩) (R.ZQ n p x):=by
 obtain⟨i,hi,h1,h2⟩:=h.K_ hh;obtain⟨a,b,c,d,_⟩:=SD.1 hh;have he:(T.ZQ p n ⟨p,n,x.want,x.ZV⟩).ZY=T.ZY.set i ⟨p,n,x.want,x.ZV⟩:=by unfold ZO.ZQ;rw[h1,Wl]
 have hk:uk ⟨p,n,x.want,x.ZV⟩=uk T.ZY[i]:=by rw[h2];rfl
 refine⟨h.up,h.us,by rw[he];exact zF _ h.uu hi hk,h.pe,h.sr,fun q m=>?_⟩;rw[he,vJ uk h.uu hi hk,JP R Zo Zo,h.su,hx];rfl
theorem WA.Vg{p n:Nat}(hn:1≤n∧n<9)(hp:1≤p∧p<9)(hh:Zp R p n=false)(x:Sub)(hx:x.there=true):WA (T.Vg ⟨p,n,x.want,x.ZV⟩) (R.ZQ n p x):=by
 have hl:lk uk T.ZY ((p:Int),(n:Int))=none:=by rw[h.su,hh];rfl
 refine⟨h.up,h.us,Ni uk h.uu hl,h.pe,h.sr,fun q m=>?_⟩;show lk uk (T.ZY++[_]) _=_;rw[JA,JP R hn hp,hx];by_cases e:(q,m)=((p:Int),(n:Int))
 ·rw[e,hl,ZU rfl,ZU rfl,show uk ⟨p,n,x.want,x.ZV⟩=((p:Int),(n:Int))from rfl,ZU rfl];rfl
 ·rw[Z3 e,Z3 (fun e'=>e e'.symm),h.su];cases Zp R q m <;> rfl
theorem WA.Uc{n:Nat}(hh:Vq R n=true):WA (T.Uc n) (R.Y0 n Uc):=by
 obtain⟨i,hi,h1,h2⟩:=h.ME hh;obtain⟨a,b,_⟩:=Vr.1 hh;have he:(T.Uc n).Yj=T.Yj.eraseIdx i:=by unfold ZO.Uc;rw[h1,Wl]
 refine⟨h.up,by rw[he];exact Lx _ h.us i,h.uu,h.pe,fun m=>?_,h.su⟩;rw[he,Kl _ h.us hi,JN R Zo,h2,h.sr];rfl
theorem WA.ZJ{n:Nat}(hh:Vq R n=true)(on:Bool):WA (T.ZJ n on) (R.Y0 n {R.src n with ZN:=on}):=by
 obtain⟨i,hi,h1,h2⟩:=h.ME hh;obtain⟨a,b,ht⟩:=Vr.1 hh;rw[Wl]at ht
 have he:(T.ZJ n on).Yj=T.Yj.set i ⟨n,(R.src n).own,(R.src n).ss,on⟩:=by
  unfold ZO.ZJ;rw[h1,Wl,h.V6 hh];rfl
 have hk:Wd.num ⟨n,(R.src n).own,(R.src n).ss,on⟩=Wd.num T.Yj[i]:=by rw[h2];rfl
 refine⟨h.up,by rw[he];exact zF _ h.us hi hk,h.uu,h.pe,fun m=>?_,h.su⟩;rw[he,vJ _ h.us hi hk,JN R Zo,h.sr];dsimp only;rw[ht];rfl
theorem WA.IW{n:Nat}(hn:1≤n∧n<9)(hh:Vq R n=false)(s:Src)(hs:s.there=true):WA (T.IW ⟨n,s.own,s.ss,s.ZN⟩) (R.Y0 n s):=by
 have hl:lk Wd.num T.Yj (n:Int)=none:=by rw[h.sr,hh];rfl
 refine⟨h.up,Ni _ h.us hl,h.uu,h.pe,fun m=>?_,h.su⟩;show lk Wd.num (T.Yj++[_]) _=_;rw[JA,JN R hn,hs];by_cases e:m=(n:Int)
 ·rw[e,hl,ZU rfl,ZU rfl];rfl
 ·rw[Z3 e,Z3 (fun e'=>e e'.symm),h.sr];cases Vq R m <;> rfl
theorem WA.Mq{p:Nat}(hp:1≤p∧p<9)(hh:Y_ R p=false)(s:List UInt8)(hs:s≠[]):WA (T.Mq ⟨p,s⟩) (R.setName p s):=by
 have hl:lk Vd.num T.Zz (p:Int)=none:=by rw[h.pe,hh];rfl
 refine⟨Ni _ h.up hl,h.us,h.uu,fun m=>?_,h.sr,h.su⟩;show lk Vd.num (T.Zz++[_]) _=_;rw[JA,F8 R hp,ZU hs];by_cases e:m=(p:Int)
 ·rw[e,hl,ZU rfl,ZU rfl];rfl
 ·rw[Z3 e,Z3 (fun e'=>e e'.symm),h.pe];cases Y_ R m <;> rfl
theorem WA.Oi{p:Nat}(hh:Y_ R p=true):WA (T.Oi p) (R.setName p []):=by
 obtain⟨i,hi,h1,h2⟩:=h.Ga hh;obtain⟨a,b,_⟩:=Ut.1 hh;have he:(T.Oi p).Zz=T.Zz.eraseIdx i:=by unfold ZO.Oi;rw[h1,Wl]
 refine⟨by rw[he];exact Lx _ h.up i,h.us,h.uu,fun m=>?_,h.sr,h.su⟩;rw[he,Kl _ h.up hi,F8 R Zo,h2,h.pe,Z3 (fun h=>h rfl:¬([]:List UInt8)≠[])];rfl
end
theorem WA.Yc(n:Nat):∀(l:List Nat) {T:ZO} {R:Room},WA T R→l.Nodup→(∀p∈l,Zp R p n=true)→(ZO.Yc n l T).1=(Xk n l R).1∧WA (ZO.Yc n l T).2 (Xk n l R).2
 | [],T,R,h,_,_=>⟨rfl,h⟩
 | p :: l,T,R,h,hd,hl=>by
  rw[List.nodup_cons]at hd
  have h1:=WA.Yc n l (h.WJ (hl p (List.mem_cons_self ..))) hd.2 (fun q hq=>by
   have h2:=hl q (List.mem_cons_of_mem _ hq);rw[UJ]at h2 ⊢;refine⟨h2.1,h2.2.1,h2.2.2.1,h2.2.2.2.1,?_⟩;rw[VL,Z3]
   ·exact h2.2.2.2.2
   ·rintro⟨_,e⟩;exact hd.1 (by rw[←e];exact hq))
  unfold ZO.Yc Xk;exact⟨by dsimp only;rw[h1.1],h1.2⟩
theorem WA.gone{T:ZO}{R:Room}(h:WA T R){n:Nat}(hh:Vq R n=true):(T.Yo n).1=(gone R n).1∧WA (T.Yo n).2 (gone R n).2:=by
 have aj:(ZY R n).Nodup:=by rw[←h.FD];exact Ii T n
 have h1:=WA.Yc n (ZY R n) h aj (fun p hp=>(Z1f.1 hp).2);unfold ZO.Yo Rm.gone;rw[h.FD];refine⟨h1.1,h1.2.Uc ?_⟩;rw[Vr]at hh ⊢;rw[LB];exact hh
end Go.Proofs.Rm
namespace Go.Proofs.Rm
open Go.Proofs.ND (may key)
open Go.Proofs.rI
theorem yh{α β:Type}{f g:α→List β}:∀ {l:List α},(∀x∈l,f x=g x)→l.flatMap f=l.flatMap g
 | [],_=>rfl
 | x :: l,h=>by rw[List.flatMap_cons,List.flatMap_cons,h x (List.mem_cons_self ..),yh fun y hy=>h y (List.mem_cons_of_mem _ hy)]
theorem QD{R:Room}{n:Nat}:Vq R n=true↔1≤n∧n<9∧(R.src n).there=true:=by
 rw[Vr,Wl];constructor <;> (rintro⟨a,b,c⟩;exact⟨Zo,Zo,c⟩)
theorem WA.ZL{p:Nat}(hp:1≤p∧p<9){T:ZO}{R:Room}(h:WA T R)(h0:∀q,(R.sub 0 q).there=false):∀k,k≤8→(ZO.ZL p T k).1=(Rm.ZL p R (k+1)).1∧WA (ZO.ZL p T k).2 (Rm.ZL p R (k+1)).2
 | 0,_=>by
  rw[PF];have e:((Rm.ZL p R 0).2.sub 0 p).there=false:=h0 p;rw[e];exact⟨rfl,h⟩
 | k+1,hk=>by
  obtain⟨h1,h2⟩:=WA.ZL hp h h0 k Zo;rw[KU,PF];have hs:=h2.Y6 (p:Int) ((k:Int)+1);have e1:((k:Int)+1)=((k+1:Nat):Int):=by omega
  rw[e1]at hs ⊢;cases ht:((Rm.ZL p R (k+1)).2.sub (k+1) p).there
  ·rw[Z3 (by rw[hs,UJ];rintro⟨_,_,_,_,h⟩;rw[ht]at h;cases h),Z3 Zd];exact⟨h1,h2⟩
  ·have hh:Zp (Rm.ZL p R (k+1)).2 p (k+1:Nat)=true:=UJ.2 ⟨hp.1,hp.2,Zo,Zo,ht⟩;rw[ZU (hs.2 hh),ZU rfl];exact⟨by dsimp only;rw[h1],h2.WJ hh⟩
theorem WA.ZH{p:Nat}(hp:1≤p){T:ZO}{X:Room}(h:WA T X)(h0:(X.src 0).there=false):∀k,k≤8→(ZO.ZH p T k).1=(Rm.ZH X p (k+1)).1∧WA (ZO.ZH p T k).2 (Rm.ZH X p (k+1)).2
 | 0,_=>by
  rw[PH,h0];exact⟨rfl,h⟩
 | k+1,hk=>by
  obtain⟨h1,h2⟩:=WA.ZH hp h h0 k Zo;rw[KY,PH];have e1:((k:Int)+1)=((k+1:Nat):Int):=by omega
  rw[e1,h2.owner];have Pv:(Rm.ZH X p (k+1)).2.src (k+1)=X.src (k+1):=by rw[Oc,Z3 Zo]
  by_cases ht:(X.src (k+1)).there=true∧(X.src (k+1)).own=p
  ·have hi:Vq (Rm.ZH X p (k+1)).2 ((k+1:Nat):Int)=true:=QD.2 ⟨Zo,Zo,by rw[Pv];exact ht.1⟩;have hg:=h2.gone hi;rw[hi,ZU rfl,Wl,Pv,ZU ht.2,ZU (by rw[ht.1,ht.2];simp)];exact⟨by dsimp only;rw[h1,hg.1],hg.2⟩
  ·have hn:¬(((X.src (k+1)).there&&decide ((X.src (k+1)).own=(p:Int)))=true):=by
    rw[UW,decide_eq_true_iff];exact ht
   rw[Z3 hn];cases hi:Vq (Rm.ZH X p (k+1)).2 ((k+1:Nat):Int)
   ·rw[Z3 (show¬(false=true) by decide),Z3 Zo];exact⟨h1,h2⟩
   ·have ht1:(X.src (k+1)).there=true:=by have:=(QD.1 hi).2.2;rwa[Pv]at this
    rw[ZU rfl,Wl,Pv,Z3 (fun e=>ht ⟨ht1,e⟩)];exact⟨h1,h2⟩
theorem WA.leave{T:ZO}{R:Room}(h:WA T R)(hI:Inv R){p:Nat}(hj:Y_ R p=true):(T.leave p).1=(Rm.leave R p).1∧WA (T.leave p).2 (Rm.leave R p).2:=by
 obtain⟨a,b,c⟩:=Ut.1 hj
 obtain⟨h1,h2⟩:=h.ZL (p:=p) Zo (fun q=>by
  rw[J8];intro e;have:=(hI.Y6 0 q e).1;omega) 8 Zo
 have hn:=Rk R p 9;obtain⟨h3,h4⟩:=h2.ZH (p:=p) Zo (by rw[hn.2];exact hI.QN.2) 8 Zo;unfold ZO.leave Rm.leave;refine⟨by dsimp only;rw[h1,h3],h4.Oi ?_⟩;rw[KA (R:=R) (by rw[Ob,hn.1])];exact hj
theorem WA.ask{T:ZO}{R:Room}(h:WA T R){p n:Nat}(hs:Vq R n=true)(_hh:Zp R p n=true):T.ask (UE R p n)=asks R p n:=by
 unfold ZO.ask asks;have e:(UE R p n).source=(n:Int):=rfl;rw[e,h.V6 hs];unfold Ux UE;rw[Wl,Wl]
theorem WA.waits{T:ZO}{R:Room}(h:WA T R){p n:Nat}(hs:Vq R n=true)(hh:Zp R p n=true){t:YF} :
  (t :: (if(UE R p n).ZV||(T.V6 n).ZN then[]else[T.ask (UE R p n)]))=t :: Rm.waits R p n:=by
 rw[h.ask hs hh,h.V6 hs];unfold Rm.waits UE Ux;rw[Wl,Wl]
theorem WA.mute{T:ZO}{R:Room}(h:WA T R){n:Nat}(hs:Vq R n=true)(on:Bool):(T.mute n on).1=(Rm.mute R n on).1∧WA (T.mute n on).2 (Rm.mute R n on).2:=by
 have h1:=h.ZJ hs on;refine⟨?_,h1⟩;unfold ZO.mute Rm.mute;dsimp only;rw[h1.FD];generalize hR1:R.Y0 n {R.src n with ZN:=on}=R1 at *
 have lN:(R1.src n).ZN=on:=by rw[←hR1,Wq,ZU rfl]
 have dP:Vq R1 n=true:=by
  rw[QD]at hs ⊢;exact⟨hs.1,hs.2.1,by rw[←hR1,Wq,ZU rfl];exact hs.2.2⟩
 apply yh;intro p hp;have hh:Zp R1 p n=true:=(Z1f.1 hp).2;unfold ZO.YX YX;cases on
 ·rw[Z3 (show¬(false=true) by decide),Z3 (show¬(false=true) by decide),h1.Ol hh,h1.ask dP hh];unfold Rm.waits;rw[lN,Bool.or_false];unfold UE;rw[Wl,Wl]
 ·rfl
theorem p9{R:Room}(hI:Inv R){p n:Nat}(hh:Zp R p n=true):Vq R n=true:=by
 obtain⟨_,_,c,d,e⟩:=UJ.1 hh;exact QD.2 ⟨c,d,(hI.Y6 n p e).2.2.2.2.1⟩
theorem NT{T:ZO}{R:Room}(h:WA T R){p n:Nat}{kd la:Int}{nm:List UInt8}{ss:List Int}(hh:Zp R p n=true)(k:Int) :
  T.changed ⟨kd,p,n,la,nm,ss⟩ k=(if k=4 then⟨p,n,(R.sub n p).want,true⟩else if k=5 then⟨p,n,(R.sub n p).want,false⟩else⟨p,n,la,(R.sub n p).ZV⟩):=by
 unfold ZO.changed;dsimp only;rw[h.Ol hh];unfold UE;rw[Wl,Wl]
theorem WA.change{T:ZO}{R:Room}(h:WA T R)(hI:Inv R){p n:Nat}{kd la:Int}{nm:List UInt8}{ss:List Int}(hh:Zp R p n=true)(k:Int)(x:Sub)(hx:x.there=true)(hc:T.changed ⟨kd,p,n,la,nm,ss⟩ k=⟨p,n,x.want,x.ZV⟩) :
  (T.change ⟨kd,p,n,la,nm,ss⟩ k).1=⟨k,p,n,if k=8 then la else 0,0⟩ :: Rm.waits (R.ZQ n p x) p n∧WA (T.change ⟨kd,p,n,la,nm,ss⟩ k).2 (R.ZQ n p x):=by
 have h1:=h.ZQ hh x hx;have hs:=p9 hI hh;have dP:Vq (R.ZQ n p x) n=true:=hs
 have hh1:Zp (R.ZQ n p x) p n=true:=by
  rw[UJ]at hh ⊢;exact⟨hh.1,hh.2.1,hh.2.2.1,hh.2.2.2.1,by rw[V_];exact hx⟩
 have ou:UE (R.ZQ n p x) p n=⟨p,n,x.want,x.ZV⟩:=by unfold UE;rw[Wl,Wl,V_]
 have hw:=h1.waits dP hh1 (t:=⟨k,p,n,if k=8 then la else 0,0⟩);rw[ou]at hw;unfold ZO.change;dsimp only;rw[hc];exact⟨hw,h1⟩
theorem WA.turns{T:ZO}{R:Room}(h:WA T R)(hI:Inv R){o:Op}(ok:Ok R o)(sv:Value):(T.turns o).1=(turns R o sv).1∧WA (T.turns o).2 (turns R o sv).2:=by
 obtain⟨kd,p,n,la,nm,ss⟩:=o;obtain⟨hk,hp,hj,ht,hs,uJ,gS,LF⟩:=ok;dsimp only at *
 obtain⟨p,rfl⟩:=Rw (show 0≤p by omega);by_cases k2:kd=2
 ·subst k2;obtain⟨h1,h2,h3⟩:=sJ (hj rfl);rw[show T.turns ⟨2,p,n,la,nm,ss⟩=([],T.Mq ⟨p,nm⟩)from rfl,show Rm.turns R ⟨2,p,n,la,nm,ss⟩ sv=([],R.setName p nm) by simp[Rm.turns]];exact⟨rfl,h.Mq (p:=p) Zo h1 nm (mM h2)⟩
 have hj1:=ht k2;by_cases k3:kd=3
 ·subst k3;rw[show T.turns ⟨3,p,n,la,nm,ss⟩=T.leave p from rfl,show Rm.turns R ⟨3,p,n,la,nm,ss⟩ sv=Rm.leave R p by simp[Rm.turns]];exact h.leave hI hj1
 obtain⟨n,rfl⟩:=Rw (show 0≤n by have:=hs Zo;omega);have hn:=hs Zo;by_cases k4:kd=4
 ·subst k4;obtain⟨_,_,_,h4,_,_⟩:=Gd (uJ rfl)
  have Ov:Vq R n=false:=by
   rw[J8,ne_eq,Vr];rintro⟨_,_,c⟩;dsimp only at h4;rw[h4]at c;cases c
  rw[show T.turns ⟨4,p,n,la,nm,ss⟩=([],T.IW ⟨n,p,ss,false⟩)from rfl,show Rm.turns R ⟨4,p,n,la,nm,ss⟩ sv=([],R.Y0 n ⟨true,n,p,sv,ss,false⟩) by simp[Rm.turns]];exact⟨rfl,h.IW (n:=n) Zo Ov ⟨true,n,p,sv,ss,false⟩ rfl⟩
 have iW:=gS Zo;have Sn:=LF Zo;rw[Wl]at iW;have lX:Vq R n=true:=QD.2 ⟨Zo,Zo,iW⟩;by_cases k5:kd=5
 ·subst k5;rw[show T.turns ⟨5,p,n,la,nm,ss⟩=T.Yo n from rfl,show Rm.turns R ⟨5,p,n,la,nm,ss⟩ sv=Rm.gone R n by simp[Rm.turns]];exact h.gone lX
 by_cases k6:kd=6
 ·subst k6;obtain⟨h1,h2,h3⟩:=OE Sn rfl;dsimp only at h1 h2 h3;rw[Wl,Wl]at h2
  have Ov:Zp R p n=false:=by
   rw[J8,ne_eq,UJ];rintro⟨_,_,_,_,e⟩;rw[h2]at e;cases e
  have GU:=h.Vg (p:=p) (n:=n) Zo Zo Ov ⟨true,false,la⟩ rfl;have hsI2:Vq (R.ZQ n p ⟨true,false,la⟩) n=true:=lX;have hh2:Zp (R.ZQ n p ⟨true,false,la⟩) p n=true:=UJ.2 ⟨Zo,Zo,Zo,Zo,by rw[V_]⟩;rw[show T.turns ⟨6,p,n,la,nm,ss⟩=T.subscribe ⟨6,p,n,la,nm,ss⟩from rfl,show Rm.turns R ⟨6,p,n,la,nm,ss⟩ sv=begin R ⟨6,p,n,la,nm,ss⟩ by simp[Rm.turns]];refine⟨?_,by unfold begin;dsimp only;rw[Wl,Wl];exact GU⟩;unfold ZO.subscribe begin;dsimp only;rw[GU.V6 hsI2];have ou:UE (R.ZQ n p ⟨true,false,la⟩) p n=⟨p,n,la,false⟩:=by unfold UE;rw[Wl,Wl,V_]
  have ha:=GU.ask hsI2 hh2;rw[ou]at ha;rw[ha];unfold Ux;rw[Wl,Wl];rfl
 by_cases k8:kd=8
 ·subst k8;rw[show T.turns ⟨8,p,n,la,nm,ss⟩=T.mute n true from rfl,show Rm.turns R ⟨8,p,n,la,nm,ss⟩ sv=Rm.mute R n true by simp[Rm.turns]];exact h.mute lX true
 by_cases k9:kd=9
 ·subst k9;rw[show T.turns ⟨9,p,n,la,nm,ss⟩=T.mute n false from rfl,show Rm.turns R ⟨9,p,n,la,nm,ss⟩ sv=Rm.mute R n false by simp[Rm.turns]];exact h.mute lX false
 have wN:=Ty Sn T_
 have dB:Zp R p n=true:=by
  have:=wN.1;dsimp only at this;rw[Wl,Wl]at this;exact UJ.2 ⟨Zo,Zo,Zo,Zo,this⟩
 have aI:=(UJ.1 dB).2.2.2.2;by_cases k7:kd=7
 ·subst k7;rw[show T.turns ⟨7,p,n,la,nm,ss⟩=([⟨2,p,n,0,0⟩],T.WJ p n)from rfl,show Rm.turns R ⟨7,p,n,la,nm,ss⟩ sv=([⟨2,p,n,0,0⟩],R.ZQ n p U9) by simp[Rm.turns]];exact⟨rfl,h.WJ dB⟩
 by_cases k10:kd=10
 ·subst k10;have hc:=NT h (kd:=10) (la:=la) (nm:=nm) (ss:=ss) dB 4;rw[ZU rfl]at hc;rw[show T.turns ⟨10,p,n,la,nm,ss⟩=T.change ⟨10,p,n,la,nm,ss⟩ 4 from rfl,show Rm.turns R ⟨10,p,n,la,nm,ss⟩ sv=([⟨4,p,n,0,0⟩],R.ZQ n p {R.sub n p with ZV:=true}) by simp[Rm.turns]];have:=h.change hI (kd:=10) (la:=la) (nm:=nm) (ss:=ss) dB 4 {R.sub n p with ZV:=true} aI hc;have GP:=this.1;have hwt:Rm.waits (R.ZQ n p {R.sub n p with ZV:=true}) p n=[]:=by unfold Rm.waits;rw[V_];rfl
  rw[Z3 Zd,hwt]at GP;exact⟨GP,this.2⟩
 by_cases k11:kd=11
 ·subst k11;have hc:=NT h (kd:=11) (la:=la) (nm:=nm) (ss:=ss) dB 5;rw[Z3 Zd,ZU rfl]at hc;rw[show T.turns ⟨11,p,n,la,nm,ss⟩=T.change ⟨11,p,n,la,nm,ss⟩ 5 from rfl,show Rm.turns R ⟨11,p,n,la,nm,ss⟩ sv=(⟨5,p,n,0,0⟩ :: Rm.waits (R.ZQ n p {R.sub n p with ZV:=false}) p n,R.ZQ n p {R.sub n p with ZV:=false}) by simp[Rm.turns]];have:=h.change hI (kd:=11) (la:=la) (nm:=nm) (ss:=ss) dB 5 {R.sub n p with ZV:=false} aI hc;have GP:=this.1;rw[Z3 Zd]at GP;exact⟨GP,this.2⟩
 ·obtain rfl:kd=12:=by omega
  have hc:=NT h (kd:=12) (la:=la) (nm:=nm) (ss:=ss) dB 8;rw[Z3 Zd,Z3 Zd]at hc;rw[show T.turns ⟨12,p,n,la,nm,ss⟩=T.change ⟨12,p,n,la,nm,ss⟩ 8 from rfl,show Rm.turns R ⟨12,p,n,la,nm,ss⟩ sv=(⟨8,p,n,la,0⟩ :: Rm.waits (R.ZQ n p {R.sub n p with want:=la}) p n,R.ZQ n p {R.sub n p with want:=la}) by simp[Rm.turns]];have:=h.change hI (kd:=12) (la:=la) (nm:=nm) (ss:=ss) dB 8 {R.sub n p with want:=la} aI hc;have GP:=this.1;rw[ZU rfl]at GP;exact⟨GP,this.2⟩
theorem WA.WG{T:ZO}{R:Room}(h:WA T R)(hI:Inv R)(o:Op)(sv:Value):(T.WG o).1.1=(WG R o sv).1.1∧(T.WG o).2=(WG R o sv).2∧WA (T.WG o).1.2 (WG R o sv).1.2:=by
 unfold ZO.WG Rm.WG;rw[h.zV hI];by_cases hw:XW R o≠0
 ·rw[ZU hw,ZU hw];exact⟨rfl,rfl,h⟩
 ·rw[Z3 hw,Z3 hw];have:=h.turns hI (Pn (Classical.not_not.1 hw)) sv;exact⟨this.1,rfl,this.2⟩
theorem WA.YW{T:ZO}{R:Room}(h:WA T R)(hI:Inv R)(p x:Int):(T.YW p x).1.1=(YW R p x).1.1∧(T.YW p x).2=(YW R p x).2∧WA (T.YW p x).1.2 (YW R p x).1.2:=by
 unfold ZO.YW Rm.YW;rw[h.of_eq hI,h.owner];cases ho:(of R x).2.2
 ·exact⟨rfl,rfl,h⟩
 ·obtain⟨m,hm,ht,hx,he⟩:=PI ho;obtain⟨Bc,_⟩:=hI.YV m ht;have hs:Vq R (m:Int)=true:=QD.2 ⟨Bc,hm,ht⟩;rw[he];dsimp only;rw[hs,ZU rfl,Wl];cases hj:Y_ R p
  ·rw[h.G5 hj];exact⟨rfl,rfl,h⟩
  ·have hpp:=(h.XD p).2 hj;have e1:decide (T.XD p<0)=false:=Wz Zo;rw[e1];by_cases YG:(R.src m).own=p
   ·have e2:decide ((R.src m).own≠p)=false:=Wz (by simp[YG]);rw[e2];have hg:=h.gone hs;exact⟨hg.1,rfl,hg.2⟩
   ·have e2:decide ((R.src m).own≠p)=true:=Ww YG;rw[e2];exact⟨rfl,rfl,h⟩
theorem WA.ok{T:ZO}{R:Room}(h:WA T R)(hI:Inv R){o:Op}(hw:T.XW o=0):o8 T o:=by
 have ok:=Pn (show XW R o=0 by rw[←h.zV hI];exact hw);obtain⟨kd,p,n,la,nm,ss⟩:=o;obtain⟨hk,hp,hj,ht,hs,uJ,gS,LF⟩:=ok;dsimp only at *
 have Pv:5≤kd→Vq R n=true:=fun gU=>Vr.2 ⟨(hs Zo).1,(hs Zo).2,gS gU⟩
 have hsub:kd=7∨10≤kd→Zp R p n=true:=fun Cz=>by
  have wN:=(Ty (LF Zo) T_).1;have:=hs Zo;exact SD.2 ⟨hp.1,hp.2,this.1,this.2,wN⟩
 have S6:∀q m:Int,Zp R q m=true→0≤(R.sub m.toNat q.toNat).want∧(R.sub m.toNat q.toNat).want<(R.src m.toNat).ss.length:=fun q m hh=>by
  have:=hI.Y6 m.toNat q.toNat (SD.1 hh).2.2.2.2;exact⟨this.2.2.2.2.2.2.2.1,this.2.2.2.2.2.2.2.2⟩
 refine⟨hk,hp.1,fun hk4=>?_,fun hk3=>(h.XD p).2 (ht (by have h3:kd=3:=hk3;omega)),fun gU=>(h.YV n).2 (Pv gU),fun hk6=>?_,fun Cz=>(h.Y6 p n).2 (hsub Cz),fun UH=>?_,?_⟩
 ·exact(Gd (uJ hk4)).2.1
 ·have hk6:kd=6:=hk6;have h3:=(OE (LF Zo) hk6).2.2;have:=O4 h3;dsimp only;rw[h.V6 (Pv Zo)];exact this
 ·intro x hx hxn;dsimp only at hxn ⊢;have UH:kd=9:=UH;have lX:=Pv Zo;obtain⟨m,rfl⟩:=Rw (show 0≤n by have:=(Vr.1 lX).1;omega);have h1:=h.ZJ lX false
  have hsI1:Vq (R.Y0 m {R.src m with ZN:=false}) m=true:=by
   rw[QD]at lX ⊢;exact⟨lX.1,lX.2.1,by rw[Wq,ZU rfl];exact lX.2.2⟩
  refine⟨(h1.YV _).2 hsI1,?_⟩;have NK:=(h.G0 (x:=x)).1 hx;rw[h1.V6 hsI1,NK.2];unfold Ux UE;dsimp only;rw[hxn,Wl,Wq,ZU rfl];have:=S6 x.peer x.source NK.1;rw[hxn,Wl]at this;exact this
 ·intro k hkk;have hkk:kd=10∧k=4∨kd=11∧k=5∨kd=12∧k=8:=hkk;have lK:kd=7∨10≤kd:=by omega
  have hh:=hsub lK;have hw2:=S6 p n hh;obtain⟨p,rfl⟩:=Rw (show 0≤p by omega);obtain⟨n,rfl⟩:=Rw (show 0≤n by have:=hs Zo;omega);rw[NT h hh k];dsimp only;rw[h.V6 (Pv Zo)];unfold Ux;dsimp only;rw[Wl,Wl]at hw2;rw[Wl];rcases hkk with⟨_,rfl⟩|⟨_,rfl⟩|⟨h12,rfl⟩
  ·exact hw2
  ·exact hw2
  ·have h4:=(Ty (LF Zo) T_).2.2.2 h12;have h5:=O4 h4.1;dsimp only at h5;rw[Wl]at h5;exact h5
end Go.Proofs.Rm
namespace Go.Proofs.Rm
open Go.RowKit Go.Proofs.Heap Go.Proofs.Mem
open Go.Proofs.ND (may key Xu)
open Go.Proofs.rI
theorem Le{α κ:Type}[DecidableEq κ](key:α→κ):∀(l:List α) (K:List κ),Nt key l→(∀x∈l,key x∈K)→l.length≤K.length
 | [],_,_,_=>TH _
 | x :: l,K,hu,hk=>by
  obtain⟨h1,h2⟩:=(Pk key).1 hu;have hx:=hk x (List.mem_cons_self ..);have:=Le key l (K.erase (key x)) h2 (fun y hy=>(List.mem_erase_of_ne (h1 y hy)).2 (hk y (List.mem_cons_of_mem _ hy)));rw[List.length_erase_of_mem hx]at this;have hp:0<K.length:=List.length_pos_of_mem hx;rw[List.length_cons];omega
theorem WA.small{T:ZO}{R:Room}(h:WA T R):T.Small:=by
 have hm:∀n:Int,1≤n→n<9→n∈[(1:Int),2,3,4,5,6,7,8]:=fun n h1 h2=>by
  have:n=1∨n=2∨n=3∨n=4∨n=5∨n=6∨n=7∨n=8:=by omega
  rcases this with rfl|rfl|rfl|rfl|rfl|rfl|rfl|rfl <;> simp
 refine⟨?_,?_,?_⟩
 ·refine PX (Le Vd.num T.Zz [1,2,3,4,5,6,7,8] h.up fun x hx=>?_) Zd;obtain⟨n,hn,rfl⟩:=h.KH.1 hx;have:=Ut.1 hn;exact hm n this.1 this.2.1
 ·refine PX (Le Wd.num T.Yj [1,2,3,4,5,6,7,8] h.us fun x hx=>?_) Zd;obtain⟨n,hn,rfl⟩:=h.Bn.1 hx;have:=Vr.1 hn;exact hm n this.1 this.2.1
 ·refine PX (Le uk T.ZY ([(1:Int),2,3,4,5,6,7,8].flatMap fun p=>[(1:Int),2,3,4,5,6,7,8].map fun n=>(p,n)) h.uu fun x hx=>?_) Zd;have:=SD.1 (h.G0.1 hx).1;rw[List.mem_flatMap];exact⟨x.peer,hm _ this.1 this.2.1,wI.2 ⟨x.source,hm _ this.2.2.1 this.2.2.2.1,rfl⟩⟩
theorem WA.names{T:ZO}{R:Room}(h:WA T R)(hI:Inv R):∀x∈T.Zz,x.name.length<9223372036854775807:=fun x hx=>by
 obtain⟨n,_,rfl⟩:=h.KH.1 hx;exact IB hI _
theorem JM:WA ⟨[],[],[]⟩ empty:=by
 have hj:∀p,Y_ empty p=false:=fun p=>by rw[J8,ne_eq,Ut];rintro⟨_,_,h⟩;exact h rfl
 have hs:∀n,Vq empty n=false:=fun n=>by rw[J8,ne_eq,Vr];rintro⟨_,_,h⟩;cases h
 have hh:∀p n,Zp empty p n=false:=fun p n=>by rw[J8,ne_eq,SD];rintro⟨_,_,_,_,h⟩;cases h
 exact⟨List.nodup_nil,List.nodup_nil,List.nodup_nil,fun p=>by rw[hj];rfl,fun n=>by rw[hs];rfl,fun p n=>by rw[hh];rfl⟩
theorem sX(b:Nat)(T:ZO)(R:Room)(o:Op)(sv:Value)(sa ba:Option Addr)(sc bl bc:Nat)(w:World)(hR:ZM w b T)(hs:WA T R)(hI:Inv R)(hT:Xu w)(UT:o.name.length<9223372036854775807)
  (ZW:XM w (.slice sa o.ZK.length sc) o.ZK.length (YN o.ZK)) :
  Calls prog 72 (Qi (some ⟨b,0,none⟩) (Jq o sa o.ZK.length sc ba bl bc)) w fun e w'=>
   (∃v,e = .returned (.tuple #[v,.int .i64 (WG R o sv).2])∧YD w' v (WG R o sv).1.1)∧(∃T',ZM w' b T'∧WA T' (WG R o sv).1.2)∧Fr w (· = b) w w':=by
 obtain⟨h1,h2,h3⟩:=hs.WG hI o sv;refine(iy b T o sa ba sc bl bc w hR hs.small hT UT (hs.names hI) ZW (fun h=>hs.ok hI h)).mono ?_;rintro e w' ⟨⟨v,rfl,ZW⟩,UY,Wm⟩;rw[h1]at ZW;rw[h2];exact⟨⟨v,rfl,ZW⟩,⟨_,UY,h3⟩,Wm⟩
theorem Dy(b:Nat)(T:ZO)(R:Room)(p x:Int)(w:World)(hR:ZM w b T)(hs:WA T R)(hI:Inv R) :
  Calls prog 104 (Jc (some ⟨b,0,none⟩) p x) w fun e w'=>
   (∃v,e = .returned (.tuple #[v,.int .i64 (YW R p x).2])∧YD w' v (YW R p x).1.1)∧(∃T',ZM w' b T'∧WA T' (YW R p x).1.2)∧Fr w (· = b) w w':=by
 obtain⟨h1,h2,h3⟩:=hs.YW hI p x;refine(qT b T p x w hR hs.small).mono ?_;rintro e w' ⟨⟨v,rfl,ZW⟩,UY,Wm⟩;rw[h1]at ZW;rw[h2];exact⟨⟨v,rfl,ZW⟩,⟨_,UY,h3⟩,Wm⟩
end Go.Proofs.Rm
namespace Go.Proofs.By
open Go.Proofs.Rm (Room YF ZO Vn WA Inv Wn opens WZ Pq pP Rj Zp YW WG turns)
def PM(n at':Int)(T:ZO)(ls:List Zx)(x:Vn):List Zx:=if 0≤T.Y6 x.peer x.source then ls else XI n at' (fun k=>decide (k=(x.peer,x.source))) ls
def RA(n at':Int)(T:ZO)(was:List Vn)(ls:List Zx):List Zx:=was.foldl (PM n at' T) ls
theorem MB(n at':Int)(T:ZO):∀(was:List Vn) (ls:List Zx),(RA n at' T was ls).length=ls.length
 | [],_=>rfl
 | x :: was,ls=>by
  show(RA n at' T was (PM n at' T ls x)).length=_;rw[MB];unfold PM;split
  ·rfl
  ·unfold XI;rw[Tx]
theorem u9(n at':Int)(T:ZO)(was:List Vn)(x:Vn)(ls:List Zx):RA n at' T (was++[x]) ls=PM n at' T (RA n at' T was ls) x:=by
 unfold RA;rw[List.foldl_append];rfl
theorem Dx{n at':Int}(V7:at'≠n)(T:ZO):∀(was:List Vn) (ls:List Zx),RA n at' T was ls=XI n at' (fun k=>was.any fun x=>decide (T.Y6 x.peer x.source<0)&&decide (k=(x.peer,x.source))) ls
 | [],ls=>(Th fun _ _ _=>rfl).symm
 | x :: was,ls=>by
  show RA n at' T was (PM n at' T ls x)=_;rw[Dx V7 T was];unfold PM;by_cases h:0≤T.Y6 x.peer x.source
  ·rw[ZU h];refine Ri fun z _ _=>?_
   rw[List.any_cons,Wz Zo];rfl
  ·rw[Z3 h,Fl V7];refine Ri fun z _ _=>?_
   rw[List.any_cons,Ww (show T.Y6 x.peer x.source<0 by omega)];rfl
theorem JF{n at':Int}(V7:at'≠n){T T':ZO}{R R':Room}(h:WA T R)(h':WA T' R')(ls:List Zx):RA n at' T' T.ZY ls=XI n at' (fun k=>opens R k && !opens R' k) ls:=by
 rw[Dx V7];refine Ri fun z _ _=>?_
 rw[Bool.eq_iff_iff,List.any_eq_true,UW,Bool.not_eq_true'];constructor
 ·rintro⟨x,hx,hc⟩;rw[UW,Sz,Sz]at hc;rw[hc.2];refine⟨(h.G0.1 hx).1,?_⟩;show Zp R' x.peer x.source=false;rw[J8];intro hh;have:=(h'.Y6 x.peer x.source).2 hh;omega
 ·rintro⟨h1,h2⟩;refine⟨Rm.UE R (Wy z).1 (Wy z).2,h.G0.2 ⟨h1,rfl⟩,?_⟩;rw[UW,Sz,Sz];refine⟨?_,rfl⟩;show T'.Y6 (Wy z).1 (Wy z).2<0
  have h3:¬0≤T'.Y6 (Wy z).1 (Wy z).2:=fun hh=>by
   have:=(h'.Y6 _ _).1 hh;have h2:Zp R' (Wy z).1 (Wy z).2=false:=h2;rw[this]at h2;cases h2
  omega
def TS(n at':Int)(T T':ZO)(ak:Int)(o:Rm.Op)(ls:List Zx):List Zx:=RA n at' T' T.ZY ls++if ak=2∧o.kind=6 then[⟨o.peer,o.source,at',n⟩]else[]
theorem yQ{n at':Int}(V7:at'≠n){T T':ZO}{R:Room}(h:WA T R)(h':WA T' R)(ls:List Zx):RA n at' T' T.ZY ls=ls:=by
 rw[JF V7 h h'];refine Th fun z _ _=>?_
 cases opens R (Wy z) <;> rfl
theorem uV{n at':Int}(V7:at'≠n){R:Room}(hI:Inv R)(hs:Wn R){T T':ZO}(h:WA T R)(ep:Int)(o:Rm.Op)(b:List UInt8)(sv:Value)(h':WA T' (take R ep o b sv).1.2){ls:List Zx}(hl:LI n (opens R) ls) :
  Xd n at' ls (take R ep o b sv).1.1.turns=TS n at' T T' (take R ep o b sv).1.1.XX.kind o ls∧LI n (opens (take R ep o b sv).1.2) (Xd n at' ls (take R ep o b sv).1.1.turns):=by
 have still:∀ak,WA T' R→¬(ak=2∧o.kind=6)→Xd n at' ls []=TS n at' T T' ak o ls∧LI n (opens R) (Xd n at' ls []):=fun ak dO hk=>by
  unfold TS;rw[yQ V7 h dO,Z3 hk,rW];exact⟨rfl,hl⟩
 have ends:∀ts R' ak,WA T' R'→¬(ak=2∧o.kind=6)→Rm.Good (opens R) ts (opens R')→(∀t∈ts,t.kind≠1)→Xd n at' ls ts=TS n at' T T' ak o ls∧LI n (opens R') (Xd n at' ls ts):=fun ts R' ak dO hk hg hb=>by
  obtain⟨g1,g2⟩:=hg;have h1:=Rl V7 ts (opens R) ls hl g1 hb;rw[g2]at h1;unfold TS;rw[JF V7 h dO,Z3 hk,rW];exact h1
 by_cases k1:o.kind=1
 ·have e:take R ep o b sv=YJ R ep o.peer b:=by unfold take;rw[ZU k1]
  rw[e]at h' ⊢;unfold YJ at h' ⊢;have k6:∀ak,¬(ak=(2:Int)∧o.kind=6):=fun ak hk=>by omega
  by_cases h1:(XY b).2≠0
  ·rw[ZU h1]at h' ⊢;exact still _ h' (k6 _)
  rw[Z3 h1]at h' ⊢;by_cases h2:(!Rm.Y_ R o.peer)=true
  ·rw[ZU h2]at h' ⊢;exact still _ h' (k6 _)
  rw[Z3 h2]at h' ⊢;cases hv:(XY b).1 with
  | none=>rw[hv]at h';exact still _ h' (k6 _)
  | XT p d=>
   rw[hv]at h';have e2:(VW R ep o.peer p d).turns=[]:=by unfold VW;split <;> rfl
   dsimp only at h' ⊢;rw[e2];exact still _ h' (k6 _)
  | Yb l=>
   rw[hv]at h'
   have hfe:l=(Yq b).1:=by
    by_cases h3:192≤at8 b 1∧at8 b 1≤223
    ·have:=Pf h3 Zo;rw[this]at hv;injection hv with hv
     exact hv.symm
    ·exact bW
   have We:=(Tm b).1;rw[←hfe]at We;have hg:=N7 o.peer l R hI hs We;exact ends _ _ _ h' (k6 _) hg.1 hg.2
 ·have e:take R ep o b sv=if(WG R o sv).2≠0 then((Yi 6 (WG R o sv).2,R),ep)else((Uq (ep+1) [] (WG R o sv).1.1 0,(WG R o sv).1.2),ep+1):=by unfold take;rw[Z3 k1]
  rw[e]at h' ⊢;by_cases h1:(WG R o sv).2≠0
  ·rw[ZU h1]at h' ⊢;exact still _ h' (fun hk=>absurd hk.1 (by show(6:Int)≠2;decide))
  rw[Z3 h1]at h' ⊢;have hg:=Rm.x_ hI o sv;by_cases k6:o.kind=6
  ·have hd:WG R o sv=(turns R o sv,0):=by
    unfold WG at h1 ⊢;split
    ·next hx=>rw[ZU hx]at h1;exact absurd hx (by simpa using h1)
    ·rfl
   have ht:turns R o sv=Rm.begin R o:=by
    unfold turns;dsimp only;rw[Z3 Zo,Z3 Zo,Z3 Zo,Z3 Zo,ZU k6]
   rw[hd,ht]at h' hg ⊢;dsimp only[Uq]at h' hg ⊢;obtain⟨g1,g2⟩:=hg
   obtain⟨t2,ht2,Bb⟩:∃t2:YF,(Rm.begin R o).1=[⟨1,o.peer,o.source,o.ZI,0⟩,t2]∧(t2.kind=6∨t2.kind=9):=by
    unfold Rm.begin;dsimp only;split
    ·exact⟨_,rfl,WO rfl⟩
    ·exact⟨_,rfl,WB rfl⟩
   rw[ht2]at g1 g2 ⊢
   have hS:opens R (o.peer,o.source)=false:=by
    have:=g1.1;unfold pP at this;rw[ZU rfl]at this;have:=(UW _ _ |>.mp this).2;simpa[Rj]using this
   have e1:Xd n at' ls [⟨1,o.peer,o.source,o.ZI,0⟩,t2]=ls++[⟨o.peer,o.source,at',n⟩]:=by
    show Yr n at' (Yr n at' ls ⟨1,o.peer,o.source,o.ZI,0⟩) t2=_;have a1:Yr n at' ls ⟨1,o.peer,o.source,o.ZI,0⟩=ls++[⟨o.peer,o.source,at',n⟩]:=rfl;rw[a1];unfold Yr;rw[Z3 Zo,Z3 Zo]
   have e2:opens (Rm.begin R o).2=fun x=>decide (x=(o.peer,o.source))||opens R x:=by
    exact cA
   rw[e1];refine⟨?_,by rw[e2];exact hl.begin o.peer o.source at' hS⟩;unfold TS;rw[JF V7 h h',ZU ⟨rfl,k6⟩,e2,Th];intro z _ _;show(opens R (Wy z) && !(decide _||opens R (Wy z)))=false;cases opens R (Wy z) <;> simp
  ·have hb:∀t∈(WG R o sv).1.1,t.kind≠1:=by
    unfold WG;split
    ·intro t ht;cases ht
    ·exact IE R o sv k6
   exact ends _ _ _ h' (fun hk=>k6 hk.2) hg hb
open Go.RowKit Go.Proofs.Heap
open Go.Proofs.Rm (of Vq Vr)
theorem DC{T:ZO}{R:Room}(h:WA T R)(hI:Inv R)(p x:Int):((T.of x).2.2=true∧T.owner (T.of x).1=p)↔owned R p x=true:=by
 rw[h.of_eq hI];unfold owned;rw[UW,Sz];refine and_congr_right fun ho=>?_
 obtain⟨m,hm,ht,_,he⟩:=Rm.PI ho;have hn:=hI.YV m ht;rw[he];show T.owner (m:Int)=p↔(R.src ((m:Int)).toNat).own=p;rw[h.owner,ZU (Vr.2 ⟨Zo,Zo,by simpa using ht⟩)]
theorem qY{T:ZO}{R:Room}(h:WA T R)(p x:Int):((U' x).2.2=true∧(U' x).1=p∧0≤T.Y6 (U' x).1 (U' x).2.1)↔UA R p x=true:=by
 unfold UA;rw[UW,UW,Sz,and_assoc];refine and_congr_right fun _=>and_congr_right fun e=>?_
 rw[h.Y6,e]
end Go.Proofs.By
namespace Go.Proofs.By
open Go.Proofs.Rm (Room YF ZO Vn WA Inv Wn opens)
def Ev.kd:Ev→Int | .none=>0 | .XT _ _=>1 | .Yb _=>2
def Ev.pk:Ev→J4 | .none=>WR | .XT p _=>p | .Yb _=>WR
def Ev.ds:Ev→EK | .none=>Tn | .XT _ d=>d | .Yb _=>Tn
def Ev.il:Ev→List Ru | .none=>[] | .XT _ _=>[] | .Yb l=>l
def uq(o:Rm.Op)(b:List UInt8):Ev:=if o.kind=1 then(XY b).1 else .none
def MQ(L:List WE)(k:Nat):Ev:=match L[k]? with
 | some y=>uq y.x.o y.b
 | none=> .none
def Fq(L:List WE)(k:Nat):List Ev:=(List.range k).map (MQ L)
theorem ur(L:List WE)(k:Nat):Fq L (k+1)=Fq L k++[MQ L k]:=by unfold Fq;rw[n_,Nv];rfl
def Pr(L:List WE):Nat→Ow
 | 0=>mO
 | k+1=>(Pr L k).add (Z5 L k).XX.kind (Z5 L k).unknown
end Go.Proofs.By
