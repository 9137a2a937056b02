/- Part of a proof. -/
import Derived.Test.YtpdjhlcbcomdkaaGreatDoorR19
set_option linter.unusedVariables false
set_option linter.unusedSimpArgs false
set_option maxRecDepth 100000
set_option maxHeartbeats 16000000
open Go Go.Q Go.Qr
namespace Go.Proofs.Rm
open Go.Proofs.NM (may key)
open Go.Proofs.tX
def uk (x:Va):Int × Int:=(x.peer,x.source)
def Vr (R:Room) (n:Int):Bool:=VE n 9 && (R.src n.toNat).there
def PI (R:Room) (p:Int):Vc:=⟨p,R.names p.toNat⟩
def Uu (R:Room) (n:Int):Wl:=⟨n,(R.src n.toNat).own,(R.src n.toNat).ss,(R.src n.toNat).ZE⟩
def UC (R:Room) (p n:Int):Va:=⟨p,n,(R.sub n.toNat p.toNat).want,(R.sub n.toNat p.toNat).ZQ⟩
structure WH (T:ZN) (R:Room):Prop where
 up:NN Vc.num T.ZA
 us:NN Wl.num T.Yg
 uu:NN uk T.Z0
 pe:∀ p,lk Vc.num T.ZA p=if Y_ R p then some (PI R p) else none
 sr:∀ n,lk Wl.num T.Yg n=if Vr R n then some (Uu R n) else none
 su:∀ p n,lk uk T.Z0 (p,n)=if Zv R p n then some (UC R p n) else none
theorem G0 (n:Int):(fun x:Vc=>x.num == n)=fun x=>decide (Vc.num x=n):=by funext x;rw [Bool.eq_iff_iff];simp
theorem EN (n:Int):(fun x:Wl=>x.num == n)=fun x=>decide (Wl.num x=n):=by funext x;rw [Bool.eq_iff_iff];simp
theorem EO (p n:Int):(fun x:Va=>x.peer == p && x.source == n)=fun x=>decide (uk x=(p,n)):=by
 funext x;rw [Bool.eq_iff_iff];simp [uk]
section
variable {T:ZN} {R:Room} (h:WH T R)
include h
theorem WH.G5 {p:Int} (hj:Y_ R p=true):∃ (i:Nat) (hi:i<T.ZA.length),T.XF p=i∧T.ZA[i]=PI R p:=by
 have:=h.pe p;rw [hj,ZR rfl] at this;obtain ⟨i,hi,h1,h2⟩:=J6 _ this;exact ⟨i,hi,by unfold ZN.XF findAt;rw [G0,h1],h2⟩
theorem WH.Ih {p:Int} (hj:Y_ R p=false):T.XF p = -1:=by
 have:=h.pe p;rw [hj,Z4 Zd] at this;unfold ZN.XF findAt;rw [G0,J5 _ this]
theorem WH.M_ {n:Int} (hj:Vr R n=true):∃ (i:Nat) (hi:i<T.Yg.length),T.YU n=i∧T.Yg[i]=Uu R n:=by
 have:=h.sr n;rw [hj,ZR rfl] at this;obtain ⟨i,hi,h1,h2⟩:=J6 _ this;exact ⟨i,hi,by unfold ZN.YU findAt;rw [EN,h1],h2⟩
theorem WH.xS {n:Int} (hj:Vr R n=false):T.YU n = -1:=by
 have:=h.sr n;rw [hj,Z4 Zd] at this;unfold ZN.YU findAt;rw [EN,J5 _ this]
theorem WH.LA {p n:Int} (hj:Zv R p n=true):∃ (i:Nat) (hi:i<T.Z0.length),T.Y9 p n=i∧T.Z0[i]=UC R p n:=by
 have:=h.su p n;rw [hj,ZR rfl] at this;obtain ⟨i,hi,h1,h2⟩:=J6 _ this;exact ⟨i,hi,by unfold ZN.Y9 findAt;rw [EO,h1],h2⟩
theorem WH.pZ {p n:Int} (hj:Zv R p n=false):T.Y9 p n = -1:=by
 have:=h.su p n;rw [hj,Z4 Zd] at this;unfold ZN.Y9 findAt;rw [EO,J5 _ this]
theorem WH.XF (p:Int):0≤T.XF p↔Y_ R p=true:=by
 cases hj:Y_ R p
 ·rw [h.Ih hj];simp
 ·obtain ⟨i,_,hi,_⟩:=h.G5 hj;rw [hi];simp
theorem WH.YU (n:Int):0≤T.YU n↔Vr R n=true:=by
 cases hj:Vr R n
 ·rw [h.xS hj];simp
 ·obtain ⟨i,_,hi,_⟩:=h.M_ hj;rw [hi];simp
theorem WH.Y9 (p n:Int):0≤T.Y9 p n↔Zv R p n=true:=by
 cases hj:Zv R p n
 ·rw [h.pZ hj];simp
 ·obtain ⟨i,_,hi,_⟩:=h.LA hj;rw [hi];simp
theorem WH.Wb {n:Int} (hj:Vr R n=true):T.Wb n=Uu R n:=by
 obtain ⟨i,hi,h1,h2⟩:=h.M_ hj;unfold ZN.Wb;rw [h1,Wz,SC,Vb hi,h2];rfl
theorem WH.OD {p n:Int} (hj:Zv R p n=true):T.OD p n=UC R p n:=by
 obtain ⟨i,hi,h1,h2⟩:=h.LA hj;unfold ZN.OD;rw [h1,Wz,SC,Vb hi,h2];rfl
theorem WH.owner (n:Int):T.owner n=if Vr R n then (R.src n.toNat).own else 0:=by
 unfold ZN.owner;cases hj:Vr R n
 ·rw [h.xS hj];simp
 ·have:=(h.YU n).2 hj;rw [Z4 Zo,h.Wb hj];simp [Uu]
theorem WH.Gy (n:Int):T.Zv n=Z0 R n:=by
 unfold ZN.Zv ZN.Vt Z0;have e:(List.range 9)=0 :: (List.range 8).map (· + 1):=by decide
 rw [e,List.filter_cons,Z4 (by unfold Zv VE;simp)];apply List.filter_congr;intro p _;rw [Bool.eq_iff_iff,decide_eq_true_iff];exact h.Y9 p n
theorem WH.Cy {x:Wl}:x∈T.Yg↔∃ n,Vr R n=true∧x=Uu R n:=by
 constructor
 ·intro hx;have h1:=Kg Wl.num h.us hx;rw [h.sr] at h1;cases hj:Vr R x.num
  ·rw [hj] at h1;simp at h1
  ·rw [hj] at h1;simp at h1;exact ⟨_,hj,h1.symm⟩
 ·rintro ⟨n,hn,rfl⟩;obtain ⟨i,hi,_,h2⟩:=h.M_ hn;rw [←h2];exact PA hi
theorem WH.Le {x:Vc}:x∈T.ZA↔∃ n,Y_ R n=true∧x=PI R n:=by
 constructor
 ·intro hx;have h1:=Kg Vc.num h.up hx;rw [h.pe] at h1;cases hj:Y_ R x.num
  ·rw [hj] at h1;simp at h1
  ·rw [hj] at h1;simp at h1;exact ⟨_,hj,h1.symm⟩
 ·rintro ⟨n,hn,rfl⟩;obtain ⟨i,hi,_,h2⟩:=h.G5 hn;rw [←h2];exact PA hi
theorem WH.Ic {x:Va}:x∈T.Z0↔Zv R x.peer x.source=true∧x=UC R x.peer x.source:=by
 constructor
 ·intro hx;have h1:=Kg uk h.uu hx;unfold uk at h1;rw [show (fun x:Va=>(x.peer,x.source))=uk from rfl] at h1;rw [h.su] at h1;cases hj:Zv R x.peer x.source
  ·rw [hj] at h1;simp at h1
  ·rw [hj] at h1;simp at h1;exact ⟨rfl,h1.symm⟩
 ·rintro ⟨hn,hx⟩;obtain ⟨i,hi,_,h2⟩:=h.LA hn;rw [hx,←h2];exact PA hi
end
theorem Vs {R:Room} {n:Int}:Vr R n=true↔1≤n∧n<9∧(R.src n.toNat).there=true:=by
 unfold Vr;rw [UR,XS];constructor
 ·rintro ⟨⟨a,b⟩,c⟩;exact ⟨a,b,c⟩
 ·rintro ⟨a,b,c⟩;exact ⟨⟨a,b⟩,c⟩
theorem SH {R:Room} {p n:Int}:Zv R p n=true↔1≤p∧p<9∧1≤n∧n<9∧(R.sub n.toNat p.toNat).there=true:=by
 unfold Zv;rw [UR,UR,XS,XS];constructor
 ·rintro ⟨⟨⟨a,b⟩,c,d⟩,e⟩;exact ⟨a,b,c,d,e⟩
 ·rintro ⟨a,b,c,d,e⟩;exact ⟨⟨⟨a,b⟩,c,d⟩,e⟩
theorem Us {R:Room} {p:Int}:Y_ R p=true↔1≤p∧p<9∧R.names p.toNat≠[]:=by
 unfold Y_;rw [UR,XS];constructor
 ·rintro ⟨⟨a,b⟩,c⟩;exact ⟨a,b,by intro e;rw [e] at c;cases c⟩
 ·rintro ⟨a,b,c⟩;exact ⟨⟨a,b⟩,by cases e:R.names p.toNat with|nil=>exact absurd e c|cons _ _=>rfl⟩
theorem WH.of_eq {T:ZN} {R:Room} (h:WH T R) (hI:Inv R) (x:Int):T.of x=of R x:=by
 cases ho:(of R x).2.2
 ·have hn:=uZ.1 ho
  have h1:T.RH x = -1:=by
   unfold ZN.RH;apply R9;intro j hj;obtain ⟨n,FN,dv⟩:=h.Cy.1 (PA hj);rw [dv,KM,ne_eq,List.contains_iff_mem];obtain ⟨a,b,c⟩:=Vs.1 FN;exact hn n.toNat Zo c
  have h2:of R x=(0,0,false):=by
   have:∀ k n,(RZ R x k n).2.2=false→RZ R x k n=(0,0,false):=by
    intro k
    induction k with
    | zero=>intro n _;rfl
    | succ k ih=>
     intro n hh;unfold RZ at hh ⊢;split at hh
     ·cases hh
     ·rename_i hc;rw [Z4 hc];exact ih _ hh
   exact this 9 0 ho
  unfold ZN.of;rw [h1,ZR Zd,h2]
 ·obtain ⟨m,hm,ht,hx,he⟩:=P7 ho;obtain ⟨Cm,_⟩:=hI.YU m ht;have hs:Vr R (m:Int)=true:=Vs.2 ⟨Zo,Zo,by rw [Wz];exact ht⟩;obtain ⟨i,hi,h1,h2⟩:=h.M_ hs
  have hge:0≤T.RH x:=by
   unfold ZN.RH;rw [Oh];exact ⟨T.Yg[i],PA hi,by rw [h2,List.contains_iff_mem];unfold Uu;rw [Wz];exact hx⟩
  obtain ⟨k,hk,R5,hp,_⟩:=XI hge;have R5:T.RH x=k:=R5;obtain ⟨n,FN,dv⟩:=h.Cy.1 (PA hk);rw [dv,List.contains_iff_mem] at hp;obtain ⟨a,b,c⟩:=Vs.1 FN;have UT:=hI.apart n.toNat m x c ht hp hx;have UT:n=(m:Int):=by omega
  unfold ZN.of;rw [Z4 Zo,R5,Wz,SC,Vb hk,Option.getD_some,dv,UT,he];unfold Uu;rw [Wz]
theorem WH.qd {T:ZN} {R:Room} (h:WH T R) (hI:Inv R) (l:List Int):T.Vv l=Vv R l:=by
 funext i;unfold ZN.Vv Vv;rw [h.of_eq hI,Bool.or_comm]
theorem GR (s:Wl) (q:Int):PW s q=true↔0≤q∧q<s.ss.length:=by unfold PW;simp
theorem WH.Bc {T:ZN} {R:Room} (h:WH T R) (hI:Inv R) (o:Op):T.X4 o=X4 R o:=by
 unfold ZN.X4 X4;by_cases k1:o.kind<2∨12<o.kind
 ·rw [ZR k1,ZR k1]
 rw [Z4 k1,Z4 k1];by_cases p1:o.peer<1∨8<o.peer
 ·rw [ZR p1,ZR (show ((!VE o.peer 9)=true) by unfold VE;simp;omega)]
 have hp:VE o.peer 9=true:=(XS _ _).2 Zo;rw [Z4 p1,Z4 (show ¬((!VE o.peer 9)=true) by rw [hp];simp)];by_cases k2:o.kind=2
 ·rw [ZR k2,ZR k2];unfold MA;cases hj:Y_ R o.peer
  ·rw [h.Ih hj,Z4 (show ¬(0:Int) ≤ -1 by decide),Z4 (show ¬(false=true) by decide)];by_cases hm:may o.name=true
   ·have e:(T.ZA.any fun x=>decide (key x.name=key o.name))=(List.range 9).any (sameKey R o):=by
     rw [Bool.eq_iff_iff,List.any_eq_true,List.any_eq_true];constructor
     ·rintro ⟨x,hx,hk⟩;obtain ⟨n,hn,rfl⟩:=h.Le.1 hx;obtain ⟨a,b,c⟩:=Us.1 hn;refine ⟨n.toNat,by rw [List.mem_range];omega,?_⟩;unfold sameKey;rw [UR];refine ⟨?_,hk⟩;cases e:R.names n.toNat with
      | nil=>exact absurd e c
      | cons _ _=>rfl
     ·rintro ⟨n,hn,hk⟩;unfold sameKey at hk;rw [UR] at hk;have WK:R.names n≠[]:=by intro e;rw [e] at hk;exact absurd hk.1 Zd
      rw [List.mem_range] at hn;have h0:n≠0:=by rintro rfl;exact WK hI.P6.1
      exact ⟨PI R n,h.Le.2 ⟨n,Us.2 ⟨Zo,Zo,by rw [Wz];exact WK⟩,rfl⟩,by unfold PI;rw [Wz];exact hk.2⟩
    rw [Z4 (show ¬((!may o.name)=true) by rw [hm];simp),Z4 (show ¬((!may o.name)=true) by rw [hm];simp),e]
   ·rw [Bool.not_eq_true] at hm;rw [ZR (show ((!may o.name)=true) by rw [hm];rfl),ZR (show ((!may o.name)=true) by rw [hm];rfl)]
  ·rw [ZR ((h.XF _).2 hj),ZR rfl]
 rw [Z4 k2,Z4 k2];cases hj:Y_ R o.peer
 ·rw [h.Ih hj,ZR Zd,ZR Zd]
 have:=(h.XF o.peer).2 hj;rw [Z4 (show ¬T.XF o.peer<0 by omega),Z4 (show ¬((!true)=true) by decide)];by_cases k3:o.kind=3
 ·rw [ZR k3,ZR k3]
 rw [Z4 k3,Z4 k3];by_cases s1:o.source<1∨8<o.source
 ·rw [ZR s1,ZR (show ((!VE o.source 9)=true) by unfold VE;simp;omega)]
 have hs:VE o.source 9=true:=(XS _ _).2 Zo;rw [Z4 s1,Z4 (show ¬((!VE o.source 9)=true) by rw [hs];simp)];have GA:Vr R o.source=(R.src o.source.toNat).there:=by unfold Vr;rw [hs];rfl
 by_cases k4:o.kind=4
 ·rw [ZR k4,ZR k4];unfold ZN.TM VR;have e1:(0≤T.YU o.source)=((R.src o.source.toNat).there=true):=by rw [←GA];exact propext (h.YU _)
  simp only [e1,h.qd hI]
 rw [Z4 k4,Z4 k4];cases ht:(R.src o.source.toNat).there
 ·rw [ht] at GA;rw [h.xS GA,ZR Zd,ZR Zd]
 rw [ht] at GA;have:=(h.YU o.source).2 GA;rw [Z4 Zo,Z4 Zd,h.Wb GA];have hh:Zv R o.peer o.source=(R.sub o.source.toNat o.peer.toNat).there:=by unfold Zv;rw [hp,hs];rfl
 unfold ZN.Xk about;have o1:(Uu R o.source).own=(R.src o.source.toNat).own:=rfl;have o2:(Uu R o.source).ZE=(R.src o.source.toNat).ZE:=rfl;simp only [o1,o2];by_cases k5:o.kind=5∨o.kind=8∨o.kind=9
 ·rw [ZR k5,ZR k5];first|done|rfl
 rw [Z4 k5,Z4 k5]
 have elay:ZH R o=if PW (Uu R o.source) o.ZH=true then 0 else 5:=by
  unfold ZH;by_cases hl:o.ZH<0∨((R.src o.source.toNat).ss.length:Int)≤o.ZH
  ·rw [ZR hl,Z4 (by rw [GR];unfold Uu;dsimp only;omega)]
  ·rw [Z4 hl,ZR (by rw [GR];unfold Uu;dsimp only;omega)]
 by_cases k6:o.kind=6
 ·rw [ZR k6,ZR k6];have e2:(0≤T.Y9 o.peer o.source)=((R.sub o.source.toNat o.peer.toNat).there=true):=by rw [←hh];exact propext (h.Y9 _ _)
  simp only [e2,elay]
 rw [Z4 k6,Z4 k6];unfold heard;dsimp only;cases yE:(R.sub o.source.toNat o.peer.toNat).there
 ·rw [yE] at hh;rw [h.pZ hh,ZR Zd,ZR Zd]
 rw [yE] at hh;have:=(h.Y9 o.peer o.source).2 hh;rw [Z4 (show ¬T.Y9 o.peer o.source<0 by omega),Z4 (show ¬((!true)=true) by decide),h.OD hh,elay];dsimp only [UC];by_cases k10:o.kind=10
 ·by_cases hp:(R.sub o.source.toNat o.peer.toNat).ZQ=true <;> simp [k10,hp]
 by_cases k11:o.kind=11
 ·by_cases hp:(R.sub o.source.toNat o.peer.toNat).ZQ=true <;> simp [k11,hp]
 by_cases k12:o.kind=12
 ·cases hl:PW (Uu R o.source) o.ZH <;> simp [k12]
 ·simp [k10,k11,k12]
theorem Ks (R:Room) {n p:Nat} (hn:1≤n∧n<9) (hp:1≤p∧p<9) (x:Sub) (q m:Int) :
  (if Zv (R.ZP n p x) q m then some (UC (R.ZP n p x) q m) else none)=if (q,m)=((p:Int),(n:Int)) then (if x.there then some (⟨p,n,x.want,x.ZQ⟩:Va) else none) else (if Zv R q m then some (UC R q m) else none):=by
 by_cases e:(q,m)=((p:Int),(n:Int))
 ·cases e;rw [ZR rfl]
  have h1:Zv (R.ZP n p x) p n=x.there:=by
   unfold Zv;rw [Wz,Wz,Wf,(XS _ _).2 Zo,(XS _ _).2 Zo];rfl
  have h2:UC (R.ZP n p x) p n=⟨p,n,x.want,x.ZQ⟩:=by unfold UC;rw [Wz,Wz,Wf]
  rw [h1,h2]
 ·rw [Z4 e];by_cases hi:VE q 9=true∧VE m 9=true
  ·have hq:=(XS _ _).1 hi.1;have hm:=(XS _ _).1 hi.2
   have hs:(R.ZP n p x).sub m.toNat q.toNat=R.sub m.toNat q.toNat:=by
    rw [VI,Z4];rintro ⟨h1,h2⟩;apply e;rw [Prod.mk.injEq];omega
   unfold Zv UC;rw [hs]
  ·have hf:∀ R':Room,Zv R' q m=false:=fun R'=>by
    rw [KM,ne_eq,SH];rintro ⟨a,b,c,d,_⟩;exact hi ⟨(XS _ _).2 ⟨a,b⟩,(XS _ _).2 ⟨c,d⟩⟩
   rw [hf,hf];rfl
theorem Kq (R:Room) {n:Nat} (hn:1≤n∧n<9) (s:Src) (m:Int) :
  (if Vr (R.Y5 n s) m then some (Uu (R.Y5 n s) m) else none)=if m=(n:Int) then (if s.there then some (⟨n,s.own,s.ss,s.ZE⟩:Wl) else none) else (if Vr R m then some (Uu R m) else none):=by
 by_cases e:m=(n:Int)
 ·cases e;rw [ZR rfl];have h0:(R.Y5 n s).src n=s:=by rw [Wy,ZR rfl]
  have h1:Vr (R.Y5 n s) n=s.there:=by unfold Vr;rw [Wz,h0,(XS _ _).2 Zo];rfl
  have h2:Uu (R.Y5 n s) n=⟨n,s.own,s.ss,s.ZE⟩:=by unfold Uu;rw [Wz,h0]
  rw [h1,h2]
 ·rw [Z4 e];by_cases hi:VE m 9=true
  ·have hm:=(XS _ _).1 hi;have hs:(R.Y5 n s).src m.toNat=R.src m.toNat:=by rw [Wy,Z4 Zo]
   unfold Vr Uu;rw [hs]
  ·have hf:∀ R':Room,Vr R' m=false:=fun R'=>by unfold Vr;rw [KM,ne_eq,UR];exact fun h=>hi h.1
   rw [hf,hf];rfl
theorem GZ (R:Room) {p:Nat} (hp:1≤p∧p<9) (s:List UInt8) (q:Int) :
  (if Y_ (R.setName p s) q then some (PI (R.setName p s) q) else none)=if q=(p:Int) then (if s≠[] then some (⟨p,s⟩:Vc) else none) else (if Y_ R q then some (PI R q) else none):=by
 by_cases e:q=(p:Int)
 ·cases e;rw [ZR rfl];have h0:(R.setName p s).names p=s:=by rw [X7,ZR rfl]
  have h2:PI (R.setName p s) p=⟨p,s⟩:=by unfold PI;rw [Wz,h0]
  rw [h2];by_cases hs:s=[]
  ·rw [Z4 (by rw [Us,Wz,h0];rintro ⟨_,_,h⟩;exact h hs),Z4 (fun h=>h hs)]
  ·rw [ZR (by rw [Us,Wz,h0];exact ⟨Zo,Zo,hs⟩),ZR hs]
 ·rw [Z4 e];by_cases hi:VE q 9=true
  ·have hm:=(XS _ _).1 hi;have hs:(R.setName p s).names q.toNat=R.names q.toNat:=by rw [X7,Z4 Zo]
   unfold Y_ PI;rw [hs]
  ·have hf:∀ R':Room,Y_ R' q=false:=fun R'=>by unfold Y_;rw [KM,ne_eq,UR];exact fun h=>hi h.1
   rw [hf,hf];rfl
section
variable {T:ZN} {R:Room} (h:WH T R)
include h
theorem WH.WN {p n:Nat} (hh:Zv R p n=true):WH (T.WN p n) (R.ZP n p U7):=by
 obtain ⟨i,hi,h1,h2⟩:=h.LA hh;obtain ⟨a,b,c,d,_⟩:=SH.1 hh;have he:(T.WN p n).Z0=T.Z0.eraseIdx i:=by unfold ZN.WN;rw [h1,Wz]
 refine ⟨h.up,h.us,by rw [he];exact LZ _ h.uu i,h.pe,h.sr,fun q m=>?_⟩;rw [he,KV uk h.uu hi,Ks R Zo Zo,h2,h.su];rfl
theorem WH.ZP {p n:Nat} (hh:Zv R p n=true) (x:Sub) (hx:x.there=true):WH (T.ZP p n ⟨p,n,x.want,x.ZQ⟩) (R.ZP n p x):=by
 obtain ⟨i,hi,h1,h2⟩:=h.LA hh;obtain ⟨a,b,c,d,_⟩:=SH.1 hh;have he:(T.ZP p n ⟨p,n,x.want,x.ZQ⟩).Z0=T.Z0.set i ⟨p,n,x.want,x.ZQ⟩:=by unfold ZN.ZP;rw [h1,Wz]
 have hk:uk ⟨p,n,x.want,x.ZQ⟩=uk T.Z0[i]:=by rw [h2];rfl
 refine ⟨h.up,h.us,by rw [he];exact AX _ h.uu hi hk,h.pe,h.sr,fun q m=>?_⟩;rw [he,xN uk h.uu hi hk,Ks R Zo Zo,h.su,hx];rfl
theorem WH.Ve {p n:Nat} (hn:1≤n∧n<9) (hp:1≤p∧p<9) (hh:Zv R p n=false) (x:Sub) (hx:x.there=true):WH (T.Ve ⟨p,n,x.want,x.ZQ⟩) (R.ZP n p x):=by
 have hl:lk uk T.Z0 ((p:Int),(n:Int))=none:=by rw [h.su,hh];rfl
 refine ⟨h.up,h.us,ND uk h.uu hl,h.pe,h.sr,fun q m=>?_⟩;show lk uk (T.Z0++[_]) _=_;rw [Kf,Ks R hn hp,hx];by_cases e:(q,m)=((p:Int),(n:Int))
 ·rw [e,hl,ZR rfl,ZR rfl,show uk ⟨p,n,x.want,x.ZQ⟩=((p:Int),(n:Int)) from rfl,ZR rfl];rfl
 ·rw [Z4 e,Z4 (fun e'=>e e'.symm),h.su];cases Zv R q m <;> rfl
theorem WH.Ud {n:Nat} (hh:Vr R n=true):WH (T.Ud n) (R.Y5 n Ud):=by
 obtain ⟨i,hi,h1,h2⟩:=h.M_ hh;obtain ⟨a,b,_⟩:=Vs.1 hh;have he:(T.Ud n).Yg=T.Yg.eraseIdx i:=by unfold ZN.Ud;rw [h1,Wz]
 refine ⟨h.up,by rw [he];exact LZ _ h.us i,h.uu,h.pe,fun m=>?_,h.su⟩;rw [he,KV _ h.us hi,Kq R Zo,h2,h.sr];rfl
theorem WH.ZJ {n:Nat} (hh:Vr R n=true) (on:Bool):WH (T.ZJ n on) (R.Y5 n {R.src n with ZE:=on}):=by
 obtain ⟨i,hi,h1,h2⟩:=h.M_ hh;obtain ⟨a,b,ht⟩:=Vs.1 hh;rw [Wz] at ht
 have he:(T.ZJ n on).Yg=T.Yg.set i ⟨n,(R.src n).own,(R.src n).ss,on⟩:=by
  unfold ZN.ZJ;rw [h1,Wz,h.Wb hh];rfl
 have hk:Wl.num ⟨n,(R.src n).own,(R.src n).ss,on⟩=Wl.num T.Yg[i]:=by rw [h2];rfl
 refine ⟨h.up,by rw [he];exact AX _ h.us hi hk,h.uu,h.pe,fun m=>?_,h.su⟩;rw [he,xN _ h.us hi hk,Kq R Zo,h.sr];dsimp only;rw [ht];rfl
theorem WH.J3 {n:Nat} (hn:1≤n∧n<9) (hh:Vr R n=false) (s:Src) (hs:s.there=true):WH (T.J3 ⟨n,s.own,s.ss,s.ZE⟩) (R.Y5 n s):=by
 have hl:lk Wl.num T.Yg (n:Int)=none:=by rw [h.sr,hh];rfl
 refine ⟨h.up,ND _ h.us hl,h.uu,h.pe,fun m=>?_,h.su⟩;show lk Wl.num (T.Yg++[_]) _=_;rw [Kf,Kq R hn,hs];by_cases e:m=(n:Int)
 ·rw [e,hl,ZR rfl,ZR rfl];rfl
 ·rw [Z4 e,Z4 (fun e'=>e e'.symm),h.sr];cases Vr R m <;> rfl
theorem WH.MQ {p:Nat} (hp:1≤p∧p<9) (hh:Y_ R p=false) (s:List UInt8) (hs:s≠[]):WH (T.MQ ⟨p,s⟩) (R.setName p s):=by
 have hl:lk Vc.num T.ZA (p:Int)=none:=by rw [h.pe,hh];rfl
 refine ⟨ND _ h.up hl,h.us,h.uu,fun m=>?_,h.sr,h.su⟩;show lk Vc.num (T.ZA++[_]) _=_;rw [Kf,GZ R hp,ZR hs];by_cases e:m=(p:Int)
 ·rw [e,hl,ZR rfl,ZR rfl];rfl
 ·rw [Z4 e,Z4 (fun e'=>e e'.symm),h.pe];cases Y_ R m <;> rfl
theorem WH.OA {p:Nat} (hh:Y_ R p=true):WH (T.OA p) (R.setName p []):=by
 obtain ⟨i,hi,h1,h2⟩:=h.G5 hh;obtain ⟨a,b,_⟩:=Us.1 hh;have he:(T.OA p).ZA=T.ZA.eraseIdx i:=by unfold ZN.OA;rw [h1,Wz]
 refine ⟨by rw [he];exact LZ _ h.up i,h.us,h.uu,fun m=>?_,h.sr,h.su⟩;rw [he,KV _ h.up hi,GZ R Zo,h2,h.pe,Z4 (fun h=>h rfl:¬([]:List UInt8)≠[])];rfl
end
theorem WH.Yc (n:Nat):∀ (l:List Nat) {T:ZN} {R:Room},WH T R→l.Nodup→(∀ p∈l,Zv R p n=true)→(ZN.Yc n l T).1=(Xm n l R).1∧WH (ZN.Yc n l T).2 (Xm n l R).2
 | [],T,R,h,_,_=>⟨rfl,h⟩
 | p :: l,T,R,h,hd,hl=>by
  rw [List.nodup_cons] at hd
  have h1:=WH.Yc n l (h.WN (hl p (List.mem_cons_self ..))) hd.2 (fun q hq=>by
   have h2:=hl q (List.mem_cons_of_mem _ hq);rw [UI] at h2 ⊢;refine ⟨h2.1,h2.2.1,h2.2.2.1,h2.2.2.2.1,?_⟩;rw [VI,Z4]
   ·exact h2.2.2.2.2
   ·rintro ⟨_,e⟩;exact hd.1 (by rw [←e];exact hq))
  unfold ZN.Yc Xm;exact ⟨by dsimp only;rw [h1.1],h1.2⟩
theorem WH.gone {T:ZN} {R:Room} (h:WH T R) {n:Nat} (hh:Vr R n=true):(T.Yo n).1=(gone R n).1∧WH (T.Yo n).2 (gone R n).2:=by
 have dx:(Z0 R n).Nodup:=by rw [←h.Gy];exact JA T n
 have h1:=WH.Yc n (Z0 R n) h dx (fun p hp=>(Z1g.1 hp).2);unfold ZN.Yo Rm.gone;rw [h.Gy];refine ⟨h1.1,h1.2.Ud ?_⟩;rw [Vs] at hh ⊢;rw [L5];exact hh
end Go.Proofs.Rm
namespace Go.Proofs.Rm
open Go.Proofs.NM (may key)
open Go.Proofs.tX
theorem zJ {α β:Type} {f g:α→List β}:∀ {l:List α},(∀ x∈l,f x=g x)→l.flatMap f=l.flatMap g
 | [],_=>rfl
 | x :: l,h=>by rw [List.flatMap_cons,List.flatMap_cons,h x (List.mem_cons_self ..),zJ fun y hy=>h y (List.mem_cons_of_mem _ hy)]
theorem QR {R:Room} {n:Nat}:Vr R n=true↔1≤n∧n<9∧(R.src n).there=true:=by
 rw [Vs,Wz];constructor <;> (rintro ⟨a,b,c⟩;exact ⟨Zo,Zo,c⟩)
theorem WH.ZM {p:Nat} (hp:1≤p∧p<9) {T:ZN} {R:Room} (h:WH T R) (h0:∀ q,(R.sub 0 q).there=false):∀ k,k≤8→(ZN.ZM p T k).1=(Rm.ZM p R (k+1)).1∧WH (ZN.ZM p T k).2 (Rm.ZM p R (k+1)).2
 | 0,_=>by
  rw [PX];have e:((Rm.ZM p R 0).2.sub 0 p).there=false:=h0 p;rw [e];exact ⟨rfl,h⟩
 | k+1,hk=>by
  obtain ⟨h1,h2⟩:=WH.ZM hp h h0 k Zo;rw [Lm,PX];have hs:=h2.Y9 (p:Int) ((k:Int)+1);have e1:((k:Int)+1)=((k+1:Nat):Int):=by omega
  rw [e1] at hs ⊢;cases ht:((Rm.ZM p R (k+1)).2.sub (k+1) p).there
  ·rw [Z4 (by rw [hs,UI];rintro ⟨_,_,_,_,h⟩;rw [ht] at h;cases h),Z4 Zd];exact ⟨h1,h2⟩
  ·have hh:Zv (Rm.ZM p R (k+1)).2 p (k+1:Nat)=true:=UI.2 ⟨hp.1,hp.2,Zo,Zo,ht⟩;rw [ZR (hs.2 hh),ZR rfl];exact ⟨by dsimp only;rw [h1],h2.WN hh⟩
theorem WH.ZI {p:Nat} (hp:1≤p) {T:ZN} {X:Room} (h:WH T X) (h0:(X.src 0).there=false):∀ k,k≤8→(ZN.ZI p T k).1=(Rm.ZI X p (k+1)).1∧WH (ZN.ZI p T k).2 (Rm.ZI X p (k+1)).2
 | 0,_=>by
  rw [PZ,h0];exact ⟨rfl,h⟩
 | k+1,hk=>by
  obtain ⟨h1,h2⟩:=WH.ZI hp h h0 k Zo;rw [Lp,PZ];have e1:((k:Int)+1)=((k+1:Nat):Int):=by omega
  rw [e1,h2.owner];have PH:(Rm.ZI X p (k+1)).2.src (k+1)=X.src (k+1):=by rw [Ow,Z4 Zo]
  by_cases ht:(X.src (k+1)).there=true∧(X.src (k+1)).own=p
  ·have hi:Vr (Rm.ZI X p (k+1)).2 ((k+1:Nat):Int)=true:=QR.2 ⟨Zo,Zo,by rw [PH];exact ht.1⟩;have hg:=h2.gone hi;rw [hi,ZR rfl,Wz,PH,ZR ht.2,ZR (by rw [ht.1,ht.2];simp)];exact ⟨by dsimp only;rw [h1,hg.1],hg.2⟩
  ·have hn:¬(((X.src (k+1)).there && decide ((X.src (k+1)).own=(p:Int)))=true):=by
    rw [UR,decide_eq_true_iff];exact ht
   rw [Z4 hn];cases hi:Vr (Rm.ZI X p (k+1)).2 ((k+1:Nat):Int)
   ·rw [Z4 (show ¬(false=true) by decide),Z4 Zo];exact ⟨h1,h2⟩
   ·have ht1:(X.src (k+1)).there=true:=by have:=(QR.1 hi).2.2;rwa [PH] at this
    rw [ZR rfl,Wz,PH,Z4 (fun e=>ht ⟨ht1,e⟩)];exact ⟨h1,h2⟩
theorem WH.leave {T:ZN} {R:Room} (h:WH T R) (hI:Inv R) {p:Nat} (hj:Y_ R p=true):(T.leave p).1=(Rm.leave R p).1∧WH (T.leave p).2 (Rm.leave R p).2:=by
 obtain ⟨a,b,c⟩:=Us.1 hj
 obtain ⟨h1,h2⟩:=h.ZM (p:=p) Zo (fun q=>by
  rw [KM];intro e;have:=(hI.Y9 0 q e).1;omega) 8 Zo
 have hn:=Rs R p 9;obtain ⟨h3,h4⟩:=h2.ZI (p:=p) Zo (by rw [hn.2];exact hI.P6.2) 8 Zo;unfold ZN.leave Rm.leave;refine ⟨by dsimp only;rw [h1,h3],h4.OA ?_⟩;rw [La (R:=R) (by rw [Ov,hn.1])];exact hj
theorem WH.ask {T:ZN} {R:Room} (h:WH T R) {p n:Nat} (hs:Vr R n=true) (_hh:Zv R p n=true):T.ask (UC R p n)=asks R p n:=by
 unfold ZN.ask asks;have e:(UC R p n).source=(n:Int):=rfl;rw [e,h.Wb hs];unfold Uu UC;rw [Wz,Wz]
theorem WH.waits {T:ZN} {R:Room} (h:WH T R) {p n:Nat} (hs:Vr R n=true) (hh:Zv R p n=true) {t:YB} :
  (t :: (if (UC R p n).ZQ || (T.Wb n).ZE then [] else [T.ask (UC R p n)]))=t :: Rm.waits R p n:=by
 rw [h.ask hs hh,h.Wb hs];unfold Rm.waits UC Uu;rw [Wz,Wz]
theorem WH.mute {T:ZN} {R:Room} (h:WH T R) {n:Nat} (hs:Vr R n=true) (on:Bool):(T.mute n on).1=(Rm.mute R n on).1∧WH (T.mute n on).2 (Rm.mute R n on).2:=by
 have h1:=h.ZJ hs on;refine ⟨?_,h1⟩;unfold ZN.mute Rm.mute;dsimp only;rw [h1.Gy];generalize hR1:R.Y5 n {R.src n with ZE:=on}=R1 at *
 have oD:(R1.src n).ZE=on:=by rw [←hR1,Wy,ZR rfl]
 have hJ:Vr R1 n=true:=by
  rw [QR] at hs ⊢;exact ⟨hs.1,hs.2.1,by rw [←hR1,Wy,ZR rfl];exact hs.2.2⟩
 apply zJ;intro p hp;have hh:Zv R1 p n=true:=(Z1g.1 hp).2;unfold ZN.Y0 Y0;cases on
 ·rw [Z4 (show ¬(false=true) by decide),Z4 (show ¬(false=true) by decide),h1.OD hh,h1.ask hJ hh];unfold Rm.waits;rw [oD,Bool.or_false];unfold UC;rw [Wz,Wz]
 ·rfl
theorem sx {R:Room} (hI:Inv R) {p n:Nat} (hh:Zv R p n=true):Vr R n=true:=by
 obtain ⟨_,_,c,d,e⟩:=UI.1 hh;exact QR.2 ⟨c,d,(hI.Y9 n p e).2.2.2.2.1⟩
theorem Od {T:ZN} {R:Room} (h:WH T R) {p n:Nat} {kd la:Int} {nm:List UInt8} {ss:List Int} (hh:Zv R p n=true) (k:Int) :
  T.changed ⟨kd,p,n,la,nm,ss⟩ k=(if k=4 then ⟨p,n,(R.sub n p).want,true⟩ else if k=5 then ⟨p,n,(R.sub n p).want,false⟩ else ⟨p,n,la,(R.sub n p).ZQ⟩):=by
 unfold ZN.changed;dsimp only;rw [h.OD hh];unfold UC;rw [Wz,Wz]
theorem WH.change {T:ZN} {R:Room} (h:WH T R) (hI:Inv R) {p n:Nat} {kd la:Int} {nm:List UInt8} {ss:List Int} (hh:Zv R p n=true) (k:Int) (x:Sub) (hx:x.there=true) (hc:T.changed ⟨kd,p,n,la,nm,ss⟩ k=⟨p,n,x.want,x.ZQ⟩) :
  (T.change ⟨kd,p,n,la,nm,ss⟩ k).1=⟨k,p,n,if k=8 then la else 0,0⟩ :: Rm.waits (R.ZP n p x) p n∧WH (T.change ⟨kd,p,n,la,nm,ss⟩ k).2 (R.ZP n p x):=by
 have h1:=h.ZP hh x hx;have hs:=sx hI hh;have hJ:Vr (R.ZP n p x) n=true:=hs
 have hh1:Zv (R.ZP n p x) p n=true:=by
  rw [UI] at hh ⊢;exact ⟨hh.1,hh.2.1,hh.2.2.1,hh.2.2.2.1,by rw [Wf];exact hx⟩
 have qN:UC (R.ZP n p x) p n=⟨p,n,x.want,x.ZQ⟩:=by unfold UC;rw [Wz,Wz,Wf]
 have hw:=h1.waits hJ hh1 (t:=⟨k,p,n,if k=8 then la else 0,0⟩);rw [qN] at hw;unfold ZN.change;dsimp only;rw [hc];exact ⟨hw,h1⟩
theorem WH.turns {T:ZN} {R:Room} (h:WH T R) (hI:Inv R) {o:Op} (ok:Ok R o) (sv:Value):(T.turns o).1=(turns R o sv).1∧WH (T.turns o).2 (turns R o sv).2:=by
 obtain ⟨kd,p,n,la,nm,ss⟩:=o;obtain ⟨hk,hp,hj,ht,hs,wI,ki,L9⟩:=ok;dsimp only at *
 obtain ⟨p,rfl⟩:=Rf (show 0≤p by omega);by_cases k2:kd=2
 ·subst k2;obtain ⟨h1,h2,h3⟩:=uR (hj rfl);rw [show T.turns ⟨2,p,n,la,nm,ss⟩=([],T.MQ ⟨p,nm⟩) from rfl,show Rm.turns R ⟨2,p,n,la,nm,ss⟩ sv=([],R.setName p nm) by simp [Rm.turns]];exact ⟨rfl,h.MQ (p:=p) Zo h1 nm (pD h2)⟩
 have hj1:=ht k2;by_cases k3:kd=3
 ·subst k3;rw [show T.turns ⟨3,p,n,la,nm,ss⟩=T.leave p from rfl,show Rm.turns R ⟨3,p,n,la,nm,ss⟩ sv=Rm.leave R p by simp [Rm.turns]];exact h.leave hI hj1
 obtain ⟨n,rfl⟩:=Rf (show 0≤n by have:=hs Zo;omega);have hn:=hs Zo;by_cases k4:kd=4
 ·subst k4;obtain ⟨_,_,_,h4,_,_⟩:=G8 (wI rfl)
  have KA:Vr R n=false:=by
   rw [KM,ne_eq,Vs];rintro ⟨_,_,c⟩;dsimp only at h4;rw [h4] at c;cases c
  rw [show T.turns ⟨4,p,n,la,nm,ss⟩=([],T.J3 ⟨n,p,ss,false⟩) from rfl,show Rm.turns R ⟨4,p,n,la,nm,ss⟩ sv=([],R.Y5 n ⟨true,n,p,sv,ss,false⟩) by simp [Rm.turns]];exact ⟨rfl,h.J3 (n:=n) Zo KA ⟨true,n,p,sv,ss,false⟩ rfl⟩
 have ai:=ki Zo;have NS:=L9 Zo;rw [Wz] at ai;have oM:Vr R n=true:=QR.2 ⟨Zo,Zo,ai⟩;by_cases k5:kd=5
 ·subst k5;rw [show T.turns ⟨5,p,n,la,nm,ss⟩=T.Yo n from rfl,show Rm.turns R ⟨5,p,n,la,nm,ss⟩ sv=Rm.gone R n by simp [Rm.turns]];exact h.gone oM
 by_cases k6:kd=6
 ·subst k6;obtain ⟨h1,h2,h3⟩:=OT NS rfl;dsimp only at h1 h2 h3;rw [Wz,Wz] at h2
  have KA:Zv R p n=false:=by
   rw [KM,ne_eq,UI];rintro ⟨_,_,_,_,e⟩;rw [h2] at e;cases e
  have H9:=h.Ve (p:=p) (n:=n) Zo Zo KA ⟨true,false,la⟩ rfl;have hsI2:Vr (R.ZP n p ⟨true,false,la⟩) n=true:=oM;have hh2:Zv (R.ZP n p ⟨true,false,la⟩) p n=true:=UI.2 ⟨Zo,Zo,Zo,Zo,by rw [Wf]⟩;rw [show T.turns ⟨6,p,n,la,nm,ss⟩=T.subscribe ⟨6,p,n,la,nm,ss⟩ from rfl,show Rm.turns R ⟨6,p,n,la,nm,ss⟩ sv=begin R ⟨6,p,n,la,nm,ss⟩ by simp [Rm.turns]];refine ⟨?_,by unfold begin;dsimp only;rw [Wz,Wz];exact H9⟩;unfold ZN.subscribe begin;dsimp only;rw [H9.Wb hsI2];have qN:UC (R.ZP n p ⟨true,false,la⟩) p n=⟨p,n,la,false⟩:=by unfold UC;rw [Wz,Wz,Wf]
  have ha:=H9.ask hsI2 hh2;rw [qN] at ha;rw [ha];unfold Uu;rw [Wz,Wz];rfl
 by_cases k8:kd=8
 ·subst k8;rw [show T.turns ⟨8,p,n,la,nm,ss⟩=T.mute n true from rfl,show Rm.turns R ⟨8,p,n,la,nm,ss⟩ sv=Rm.mute R n true by simp [Rm.turns]];exact h.mute oM true
 by_cases k9:kd=9
 ·subst k9;rw [show T.turns ⟨9,p,n,la,nm,ss⟩=T.mute n false from rfl,show Rm.turns R ⟨9,p,n,la,nm,ss⟩ sv=Rm.mute R n false by simp [Rm.turns]];exact h.mute oM false
 have yE:=TD NS T_
 have gL:Zv R p n=true:=by
  have:=yE.1;dsimp only at this;rw [Wz,Wz] at this;exact UI.2 ⟨Zo,Zo,Zo,Zo,this⟩
 have dP:=(UI.1 gL).2.2.2.2;by_cases k7:kd=7
 ·subst k7;rw [show T.turns ⟨7,p,n,la,nm,ss⟩=([⟨2,p,n,0,0⟩],T.WN p n) from rfl,show Rm.turns R ⟨7,p,n,la,nm,ss⟩ sv=([⟨2,p,n,0,0⟩],R.ZP n p U7) by simp [Rm.turns]];exact ⟨rfl,h.WN gL⟩
 by_cases k10:kd=10
 ·subst k10;have hc:=Od h (kd:=10) (la:=la) (nm:=nm) (ss:=ss) gL 4;rw [ZR rfl] at hc;rw [show T.turns ⟨10,p,n,la,nm,ss⟩=T.change ⟨10,p,n,la,nm,ss⟩ 4 from rfl,show Rm.turns R ⟨10,p,n,la,nm,ss⟩ sv=([⟨4,p,n,0,0⟩],R.ZP n p {R.sub n p with ZQ:=true}) by simp [Rm.turns]];have:=h.change hI (kd:=10) (la:=la) (nm:=nm) (ss:=ss) gL 4 {R.sub n p with ZQ:=true} dP hc;have Bf:=this.1;have hwt:Rm.waits (R.ZP n p {R.sub n p with ZQ:=true}) p n=[]:=by unfold Rm.waits;rw [Wf];rfl
  rw [Z4 Zd,hwt] at Bf;exact ⟨Bf,this.2⟩
 by_cases k11:kd=11
 ·subst k11;have hc:=Od h (kd:=11) (la:=la) (nm:=nm) (ss:=ss) gL 5;rw [Z4 Zd,ZR rfl] at hc;rw [show T.turns ⟨11,p,n,la,nm,ss⟩=T.change ⟨11,p,n,la,nm,ss⟩ 5 from rfl,show Rm.turns R ⟨11,p,n,la,nm,ss⟩ sv=(⟨5,p,n,0,0⟩ :: Rm.waits (R.ZP n p {R.sub n p with ZQ:=false}) p n,R.ZP n p {R.sub n p with ZQ:=false}) by simp [Rm.turns]];have:=h.change hI (kd:=11) (la:=la) (nm:=nm) (ss:=ss) gL 5 {R.sub n p with ZQ:=false} dP hc;have Bf:=this.1;rw [Z4 Zd] at Bf;exact ⟨Bf,this.2⟩
 ·obtain rfl:kd=12:=by omega
  have hc:=Od h (kd:=12) (la:=la) (nm:=nm) (ss:=ss) gL 8;rw [Z4 Zd,Z4 Zd] at hc;rw [show T.turns ⟨12,p,n,la,nm,ss⟩=T.change ⟨12,p,n,la,nm,ss⟩ 8 from rfl,show Rm.turns R ⟨12,p,n,la,nm,ss⟩ sv=(⟨8,p,n,la,0⟩ :: Rm.waits (R.ZP n p {R.sub n p with want:=la}) p n,R.ZP n p {R.sub n p with want:=la}) by simp [Rm.turns]];have:=h.change hI (kd:=12) (la:=la) (nm:=nm) (ss:=ss) gL 8 {R.sub n p with want:=la} dP hc;have Bf:=this.1;rw [ZR rfl] at Bf;exact ⟨Bf,this.2⟩
theorem WH.Wm {T:ZN} {R:Room} (h:WH T R) (hI:Inv R) (o:Op) (sv:Value):(T.Wm o).1.1=(Wm R o sv).1.1∧(T.Wm o).2=(Wm R o sv).2∧WH (T.Wm o).1.2 (Wm R o sv).1.2:=by
 unfold ZN.Wm Rm.Wm;rw [h.Bc hI];by_cases hw:X4 R o≠0
 ·rw [ZR hw,ZR hw];exact ⟨rfl,rfl,h⟩
 ·rw [Z4 hw,Z4 hw];have:=h.turns hI (Pw (Classical.not_not.1 hw)) sv;exact ⟨this.1,rfl,this.2⟩
theorem WH.YS {T:ZN} {R:Room} (h:WH T R) (hI:Inv R) (p x:Int):(T.YS p x).1.1=(YS R p x).1.1∧(T.YS p x).2=(YS R p x).2∧WH (T.YS p x).1.2 (YS R p x).1.2:=by
 unfold ZN.YS Rm.YS;rw [h.of_eq hI,h.owner];cases ho:(of R x).2.2
 ·exact ⟨rfl,rfl,h⟩
 ·obtain ⟨m,hm,ht,hx,he⟩:=P7 ho;obtain ⟨Cm,_⟩:=hI.YU m ht;have hs:Vr R (m:Int)=true:=QR.2 ⟨Cm,hm,ht⟩;rw [he];dsimp only;rw [hs,ZR rfl,Wz];cases hj:Y_ R p
  ·rw [h.Ih hj];exact ⟨rfl,rfl,h⟩
  ·have hpp:=(h.XF p).2 hj;have e1:decide (T.XF p<0)=false:=WI Zo;rw [e1];by_cases YH:(R.src m).own=p
   ·have e2:decide ((R.src m).own≠p)=false:=WI (by simp [YH]);rw [e2];have hg:=h.gone hs;exact ⟨hg.1,rfl,hg.2⟩
   ·have e2:decide ((R.src m).own≠p)=true:=Wi YH;rw [e2];exact ⟨rfl,rfl,h⟩
theorem WH.ok {T:ZN} {R:Room} (h:WH T R) (hI:Inv R) {o:Op} (hw:T.X4 o=0):rB T o:=by
 have ok:=Pw (show X4 R o=0 by rw [←h.Bc hI];exact hw);obtain ⟨kd,p,n,la,nm,ss⟩:=o;obtain ⟨hk,hp,hj,ht,hs,wI,ki,L9⟩:=ok;dsimp only at *
 have PH:5≤kd→Vr R n=true:=fun km=>Vs.2 ⟨(hs Zo).1,(hs Zo).2,ki km⟩
 have hsub:kd=7∨10≤kd→Zv R p n=true:=fun GC=>by
  have yE:=(TD (L9 Zo) T_).1;have:=hs Zo;exact SH.2 ⟨hp.1,hp.2,this.1,this.2,yE⟩
 have Ta:∀ q m:Int,Zv R q m=true→0≤(R.sub m.toNat q.toNat).want∧(R.sub m.toNat q.toNat).want<(R.src m.toNat).ss.length:=fun q m hh=>by
  have:=hI.Y9 m.toNat q.toNat (SH.1 hh).2.2.2.2;exact ⟨this.2.2.2.2.2.2.2.1,this.2.2.2.2.2.2.2.2⟩
 refine ⟨hk,hp.1,fun hk4=>?_,fun lB=>(h.XF p).2 (ht (by have h3:kd=3:=lB;omega)),fun km=>(h.YU n).2 (PH km),fun hk6=>?_,fun GC=>(h.Y9 p n).2 (hsub GC),fun UF=>?_,?_⟩
 ·exact (G8 (wI hk4)).2.1
 ·have hk6:kd=6:=hk6;have h3:=(OT (L9 Zo) hk6).2.2;have:=Pd h3;dsimp only;rw [h.Wb (PH Zo)];exact this
 ·intro x hx hxn;dsimp only at hxn ⊢;have UF:kd=9:=UF;have oM:=PH Zo;obtain ⟨m,rfl⟩:=Rf (show 0≤n by have:=(Vs.1 oM).1;omega);have h1:=h.ZJ oM false
  have hsI1:Vr (R.Y5 m {R.src m with ZE:=false}) m=true:=by
   rw [QR] at oM ⊢;exact ⟨oM.1,oM.2.1,by rw [Wy,ZR rfl];exact oM.2.2⟩
  refine ⟨(h1.YU _).2 hsI1,?_⟩;have N7:=(h.Ic (x:=x)).1 hx;rw [h1.Wb hsI1,N7.2];unfold Uu UC;dsimp only;rw [hxn,Wz,Wy,ZR rfl];have:=Ta x.peer x.source N7.1;rw [hxn,Wz] at this;exact this
 ·intro k dg;have dg:kd=10∧k=4∨kd=11∧k=5∨kd=12∧k=8:=dg;have ou:kd=7∨10≤kd:=by omega
  have hh:=hsub ou;have aj:=Ta p n hh;obtain ⟨p,rfl⟩:=Rf (show 0≤p by omega);obtain ⟨n,rfl⟩:=Rf (show 0≤n by have:=hs Zo;omega);rw [Od h hh k];dsimp only;rw [h.Wb (PH Zo)];unfold Uu;dsimp only;rw [Wz,Wz] at aj;rw [Wz];rcases dg with ⟨_,rfl⟩|⟨_,rfl⟩|⟨h12,rfl⟩
  ·exact aj
  ·exact aj
  ·have h4:=(TD (L9 Zo) T_).2.2.2 h12;have h5:=Pd h4.1;dsimp only at h5;rw [Wz] at h5;exact h5
end Go.Proofs.Rm
namespace Go.Proofs.Rm
open Go.RowKit Go.Proofs.Heap Go.Proofs.Mem
open Go.Proofs.NM (may key Xz)
open Go.Proofs.tX
theorem LG {α κ:Type} [DecidableEq κ] (key:α→κ):∀ (l:List α) (K:List κ),NN key l→(∀ x∈l,key x∈K)→l.length≤K.length
 | [],_,_,_=>Tk _
 | x :: l,K,hu,hk=>by
  obtain ⟨h1,h2⟩:=(Pt key).1 hu;have hx:=hk x (List.mem_cons_self ..);have:=LG key l (K.erase (key x)) h2 (fun y hy=>(List.mem_erase_of_ne (h1 y hy)).2 (hk y (List.mem_cons_of_mem _ hy)));rw [List.length_erase_of_mem hx] at this;have hp:0<K.length:=List.length_pos_of_mem hx;rw [List.length_cons];omega
theorem WH.small {T:ZN} {R:Room} (h:WH T R):T.Small:=by
 have hm:∀ n:Int,1≤n→n<9→n∈[(1:Int),2,3,4,5,6,7,8]:=fun n h1 h2=>by
  have:n=1∨n=2∨n=3∨n=4∨n=5∨n=6∨n=7∨n=8:=by omega
  rcases this with rfl|rfl|rfl|rfl|rfl|rfl|rfl|rfl <;> simp
 refine ⟨?_,?_,?_⟩
 ·refine PO (LG Vc.num T.ZA [1,2,3,4,5,6,7,8] h.up fun x hx=>?_) Zd;obtain ⟨n,hn,rfl⟩:=h.Le.1 hx;have:=Us.1 hn;exact hm n this.1 this.2.1
 ·refine PO (LG Wl.num T.Yg [1,2,3,4,5,6,7,8] h.us fun x hx=>?_) Zd;obtain ⟨n,hn,rfl⟩:=h.Cy.1 hx;have:=Vs.1 hn;exact hm n this.1 this.2.1
 ·refine PO (LG uk T.Z0 ([(1:Int),2,3,4,5,6,7,8].flatMap fun p=>[(1:Int),2,3,4,5,6,7,8].map fun n=>(p,n)) h.uu fun x hx=>?_) Zd;have:=SH.1 (h.Ic.1 hx).1;rw [List.mem_flatMap];exact ⟨x.peer,hm _ this.1 this.2.1,vO.2 ⟨x.source,hm _ this.2.2.1 this.2.2.2.1,rfl⟩⟩
theorem WH.names {T:ZN} {R:Room} (h:WH T R) (hI:Inv R):∀ x∈T.ZA,x.name.length<9223372036854775807:=fun x hx=>by
 obtain ⟨n,_,rfl⟩:=h.Le.1 hx;exact JP hI _
theorem EL:WH ⟨[],[],[]⟩ empty:=by
 have hj:∀ p,Y_ empty p=false:=fun p=>by rw [KM,ne_eq,Us];rintro ⟨_,_,h⟩;exact h rfl
 have hs:∀ n,Vr empty n=false:=fun n=>by rw [KM,ne_eq,Vs];rintro ⟨_,_,h⟩;cases h
 have hh:∀ p n,Zv empty p n=false:=fun p n=>by rw [KM,ne_eq,SH];rintro ⟨_,_,_,_,h⟩;cases h
 exact ⟨List.nodup_nil,List.nodup_nil,List.nodup_nil,fun p=>by rw [hj];rfl,fun n=>by rw [hs];rfl,fun p n=>by rw [hh];rfl⟩
theorem u_ (b:Nat) (T:ZN) (R:Room) (o:Op) (sv:Value) (sa ba:Option Addr) (sc bl bc:Nat) (w:World) (hR:ZL w b T) (hs:WH T R) (hI:Inv R) (hT:Xz w) (UT:o.name.length<9223372036854775807)
  (ZY:XR w (.slice sa o.ZK.length sc) o.ZK.length (YO o.ZK)) :
  Calls Tryz.prog 72 (Qi (some ⟨b,0,none⟩) (Jo o sa o.ZK.length sc ba bl bc)) w fun e w'=>
   (∃ v,e = .returned (.tuple #[v,.int .i64 (Wm R o sv).2])∧YF w' v (Wm R o sv).1.1)∧(∃ T',ZL w' b T'∧WH T' (Wm R o sv).1.2)∧Fr w (· = b) w w':=by
 obtain ⟨h1,h2,h3⟩:=hs.Wm hI o sv;refine (kN b T o sa ba sc bl bc w hR hs.small hT UT (hs.names hI) ZY (fun h=>hs.ok hI h)).mono ?_;rintro e w' ⟨⟨v,rfl,ZY⟩,UX,Wu⟩;rw [h1] at ZY;rw [h2];exact ⟨⟨v,rfl,ZY⟩,⟨_,UX,h3⟩,Wu⟩
theorem EE (b:Nat) (T:ZN) (R:Room) (p x:Int) (w:World) (hR:ZL w b T) (hs:WH T R) (hI:Inv R) :
  Calls Tryz.prog 104 (Ja (some ⟨b,0,none⟩) p x) w fun e w'=>
   (∃ v,e = .returned (.tuple #[v,.int .i64 (YS R p x).2])∧YF w' v (YS R p x).1.1)∧(∃ T',ZL w' b T'∧WH T' (YS R p x).1.2)∧Fr w (· = b) w w':=by
 obtain ⟨h1,h2,h3⟩:=hs.YS hI p x;refine (tB b T p x w hR hs.small).mono ?_;rintro e w' ⟨⟨v,rfl,ZY⟩,UX,Wu⟩;rw [h1] at ZY;rw [h2];exact ⟨⟨v,rfl,ZY⟩,⟨_,UX,h3⟩,Wu⟩
end Go.Proofs.Rm
namespace Go.Proofs.By
open Go.Proofs.Rm (Room YB ZN Va WH Inv V8 opens W9 Ob nG QG Zv YS Wm turns)
def P8 (n at':Int) (T:ZN) (ls:List Zu) (x:Va):List Zu:=if 0≤T.Y9 x.peer x.source then ls else Xx n at' (fun k=>decide (k=(x.peer,x.source))) ls
def RJ (n at':Int) (T:ZN) (was:List Va) (ls:List Zu):List Zu:=was.foldl (P8 n at' T) ls
theorem M4 (n at':Int) (T:ZN):∀ (was:List Va) (ls:List Zu),(RJ n at' T was ls).length=ls.length
 | [],_=>rfl
 | x :: was,ls=>by
  show (RJ n at' T was (P8 n at' T ls x)).length=_;rw [M4];unfold P8;split
  ·rfl
  ·unfold Xx;rw [TB]
theorem xd (n at':Int) (T:ZN) (was:List Va) (x:Va) (ls:List Zu):RJ n at' T (was++[x]) ls=P8 n at' T (RJ n at' T was ls) x:=by
 unfold RJ;rw [List.foldl_append];rfl
theorem ED {n at':Int} (VQ:at'≠n) (T:ZN):∀ (was:List Va) (ls:List Zu),RJ n at' T was ls=Xx n at' (fun k=>was.any fun x=>decide (T.Y9 x.peer x.source<0) && decide (k=(x.peer,x.source))) ls
 | [],ls=>(Tp fun _ _ _=>rfl).symm
 | x :: was,ls=>by
  show RJ n at' T was (P8 n at' T ls x)=_;rw [ED VQ T was];unfold P8;by_cases h:0≤T.Y9 x.peer x.source
  ·rw [ZR h];refine Rq fun z _ _=>?_
   rw [List.any_cons,WI Zo];rfl
  ·rw [Z4 h,Gi VQ];refine Rq fun z _ _=>?_
   rw [List.any_cons,Wi (show T.Y9 x.peer x.source<0 by omega)];rfl
theorem Kj {n at':Int} (VQ:at'≠n) {T T':ZN} {R R':Room} (h:WH T R) (h':WH T' R') (ls:List Zu):RJ n at' T' T.Z0 ls=Xx n at' (fun k=>opens R k && !opens R' k) ls:=by
 rw [ED VQ];refine Rq fun z _ _=>?_
 rw [Bool.eq_iff_iff,List.any_eq_true,UR,Bool.not_eq_true'];constructor
 ·rintro ⟨x,hx,hc⟩;rw [UR,Pz,Pz] at hc;rw [hc.2];refine ⟨(h.Ic.1 hx).1,?_⟩;show Zv R' x.peer x.source=false;rw [KM];intro hh;have:=(h'.Y9 x.peer x.source).2 hh;omega
 ·rintro ⟨h1,h2⟩;refine ⟨Rm.UC R (WB z).1 (WB z).2,h.Ic.2 ⟨h1,rfl⟩,?_⟩;rw [UR,Pz,Pz];refine ⟨?_,rfl⟩;show T'.Y9 (WB z).1 (WB z).2<0
  have h3:¬0≤T'.Y9 (WB z).1 (WB z).2:=fun hh=>by
   have:=(h'.Y9 _ _).1 hh;have h2:Zv R' (WB z).1 (WB z).2=false:=h2;rw [this] at h2;cases h2
  omega
def TV (n at':Int) (T T':ZN) (ak:Int) (o:Rm.Op) (ls:List Zu):List Zu:=RJ n at' T' T.Z0 ls++if ak=2∧o.kind=6 then [⟨o.peer,o.source,at',n⟩] else []
theorem Am {n at':Int} (VQ:at'≠n) {T T':ZN} {R:Room} (h:WH T R) (h':WH T' R) (ls:List Zu):RJ n at' T' T.Z0 ls=ls:=by
 rw [Kj VQ h h'];refine Tp fun z _ _=>?_
 cases opens R (WB z) <;> rfl
theorem wW {n at':Int} (VQ:at'≠n) {R:Room} (hI:Inv R) (hs:V8 R) {T T':ZN} (h:WH T R) (ep:Int) (o:Rm.Op) (b:List UInt8) (sv:Value) (h':WH T' (take R ep o b sv).1.2) {ls:List Zu} (hl:LI n (opens R) ls) :
  WX n at' ls (take R ep o b sv).1.1.turns=TV n at' T T' (take R ep o b sv).1.1.XC.kind o ls∧LI n (opens (take R ep o b sv).1.2) (WX n at' ls (take R ep o b sv).1.1.turns):=by
 have still:∀ ak,WH T' R→¬(ak=2∧o.kind=6)→WX n at' ls []=TV n at' T T' ak o ls∧LI n (opens R) (WX n at' ls []):=fun ak hH hk=>by
  unfold TV;rw [Am VQ h hH,Z4 hk,um];exact ⟨rfl,hl⟩
 have ends:∀ ts R' ak,WH T' R'→¬(ak=2∧o.kind=6)→Rm.Good (opens R) ts (opens R')→(∀ t∈ts,t.kind≠1)→WX n at' ls ts=TV n at' T T' ak o ls∧LI n (opens R') (WX n at' ls ts):=fun ts R' ak hH hk hg hb=>by
  obtain ⟨g1,g2⟩:=hg;have h1:=Ox VQ ts (opens R) ls hl g1 hb;rw [g2] at h1;unfold TV;rw [Kj VQ h hH,Z4 hk,um];exact h1
 by_cases k1:o.kind=1
 ·have e:take R ep o b sv=YG R ep o.peer b:=by unfold take;rw [ZR k1]
  rw [e] at h' ⊢;unfold YG at h' ⊢;have k6:∀ ak,¬(ak=(2:Int)∧o.kind=6):=fun ak hk=>by omega
  by_cases h1:(XN b).2≠0
  ·rw [ZR h1] at h' ⊢;exact still _ h' (k6 _)
  rw [Z4 h1] at h' ⊢;by_cases h2:(!Rm.Y_ R o.peer)=true
  ·rw [ZR h2] at h' ⊢;exact still _ h' (k6 _)
  rw [Z4 h2] at h' ⊢;cases hv:(XN b).1 with
  | none=>rw [hv] at h';exact still _ h' (k6 _)
  | X5 p d=>
   rw [hv] at h';have e2:(Vg R ep o.peer p d).turns=[]:=by unfold Vg;split <;> rfl
   dsimp only at h' ⊢;rw [e2];exact still _ h' (k6 _)
  | XX l=>
   rw [hv] at h'
   have hfe:l=(Yj b).1:=by
    by_cases h3:192≤at8 b 1∧at8 b 1≤223
    ·have:=M7 h3 Zo;rw [this] at hv;injection hv with hv
     exact hv.symm
    ·exact Yx115
   have Wq:=(Si b).1;rw [←hfe] at Wq;have hg:=K9 o.peer l R hI hs Wq;exact ends _ _ _ h' (k6 _) hg.1 hg.2
 ·have e:take R ep o b sv=if (Wm R o sv).2≠0 then ((Yb 6 (Wm R o sv).2,R),ep) else ((Ub (ep+1) [] (Wm R o sv).1.1 0,(Wm R o sv).1.2),ep+1):=by unfold take;rw [Z4 k1]
  rw [e] at h' ⊢;by_cases h1:(Wm R o sv).2≠0
  ·rw [ZR h1] at h' ⊢;exact still _ h' (fun hk=>absurd hk.1 (by show (6:Int)≠2;decide))
  rw [Z4 h1] at h' ⊢;have hg:=Rm.nJ hI o sv;by_cases k6:o.kind=6
  ·have hd:Wm R o sv=(turns R o sv,0):=by
    unfold Wm at h1 ⊢;split
    ·next hx=>rw [ZR hx] at h1;exact absurd hx (by simpa using h1)
    ·rfl
   have ht:turns R o sv=Rm.begin R o:=by
    unfold turns;dsimp only;rw [Z4 Zo,Z4 Zo,Z4 Zo,Z4 Zo,ZR k6]
   rw [hd,ht] at h' hg ⊢;dsimp only [Ub] at h' hg ⊢;obtain ⟨g1,g2⟩:=hg
   obtain ⟨t2,ht2,Ee⟩:∃ t2:YB,(Rm.begin R o).1=[⟨1,o.peer,o.source,o.ZH,0⟩,t2]∧(t2.kind=6∨t2.kind=9):=by
    unfold Rm.begin;dsimp only;split
    ·exact ⟨_,rfl,Ws rfl⟩
    ·exact ⟨_,rfl,Wh rfl⟩
   rw [ht2] at g1 g2 ⊢
   have hS:opens R (o.peer,o.source)=false:=by
    have:=g1.1;unfold nG at this;rw [ZR rfl] at this;have:=(UR _ _ |>.mp this).2;simpa [QG] using this
   have e1:WX n at' ls [⟨1,o.peer,o.source,o.ZH,0⟩,t2]=ls++[⟨o.peer,o.source,at',n⟩]:=by
    show X9 n at' (X9 n at' ls ⟨1,o.peer,o.source,o.ZH,0⟩) t2=_;have a1:X9 n at' ls ⟨1,o.peer,o.source,o.ZH,0⟩=ls++[⟨o.peer,o.source,at',n⟩]:=rfl;rw [a1];unfold X9;rw [Z4 Zo,Z4 Zo]
   have e2:opens (Rm.begin R o).2=fun x=>decide (x=(o.peer,o.source)) || opens R x:=by
    exact Yx137
   rw [e1];refine ⟨?_,by rw [e2];exact hl.begin o.peer o.source at' hS⟩;unfold TV;rw [Kj VQ h h',ZR ⟨rfl,k6⟩,e2,Tp];intro z _ _;show (opens R (WB z) && !(decide _ || opens R (WB z)))=false;cases opens R (WB z) <;> simp
  ·have hb:∀ t∈(Wm R o sv).1.1,t.kind≠1:=by
    unfold Wm;split
    ·intro t ht;cases ht
    ·exact A5 R o sv k6
   exact ends _ _ _ h' (fun hk=>k6 hk.2) hg hb
open Go.Proofs.Rm (VE of Y_ O5 QW Ou Pq Sj)
theorem Ba (R:Room) (p n:Nat):(Rm.waits R p n).length≤1:=by unfold Rm.waits;split <;> simp
theorem uV (R:Room) (n:Nat) (on:Bool):(Rm.mute R n on).1.length≤18:=by
 have h1:=Sj (R.Y5 n {R.src n with ZE:=on}) n on (Rm.Z0 (R.Y5 n {R.src n with ZE:=on}) n);have h2:=Pq (R.Y5 n {R.src n with ZE:=on}) n;show ((Rm.Z0 (R.Y5 n {R.src n with ZE:=on}) n).flatMap _).length≤18;omega
theorem p_ (R:Room) (o:Rm.Op) (sv:Value):(turns R o sv).1.length≤200:=by
 unfold turns;dsimp only;by_cases k2:o.kind=2
 ·rw [ZR k2];exact Tk _
 rw [Z4 k2];by_cases k3:o.kind=3
 ·rw [ZR k3];unfold Rm.leave;dsimp only;rw [UE];have h1:=QW o.peer.toNat R 9;have h2:=Ou o.peer.toNat (Rm.ZM o.peer.toNat R 9).2 9;omega
 rw [Z4 k3];by_cases k4:o.kind=4
 ·rw [ZR k4];exact Tk _
 rw [Z4 k4];by_cases k5:o.kind=5
 ·rw [ZR k5];have:=O5 R o.source.toNat;omega
 rw [Z4 k5];by_cases k6:o.kind=6
 ·rw [ZR k6];unfold Rm.begin;dsimp only;rw [List.length_cons];have:(if (R.src o.source.toNat).ZE=true then [(⟨6,o.peer,o.source,0,0⟩:YB)] else [Rm.asks (R.ZP o.source.toNat o.peer.toNat ⟨true,false,o.ZH⟩) o.peer.toNat o.source.toNat]).length=1:=by split <;> rfl
  omega
 rw [Z4 k6];by_cases k7:o.kind=7
 ·rw [ZR k7];show 1≤200;decide
 rw [Z4 k7];by_cases k8:o.kind=8
 ·rw [ZR k8];have:=uV R o.source.toNat true;omega
 rw [Z4 k8];by_cases k9:o.kind=9
 ·rw [ZR k9];have:=uV R o.source.toNat false;omega
 rw [Z4 k9];by_cases k10:o.kind=10
 ·rw [ZR k10];show 1≤200;decide
 rw [Z4 k10];by_cases k11:o.kind=11
 ·rw [ZR k11];dsimp only;rw [List.length_cons];exact PO (Nat.succ_le_succ (Ba _ _ _)) Zd
 rw [Z4 k11];by_cases k12:o.kind=12
 ·rw [ZR k12];dsimp only;rw [List.length_cons];exact PO (Nat.succ_le_succ (Ba _ _ _)) Zd
 rw [Z4 k12];exact Tk _
theorem I6 (peer:Int):∀ (l:List Int) (R:Room),(Ze peer l R).1.1.length≤18*l.length
 | [],R=>Zw _
 | x :: l,R=>by
  have ih:=I6 peer l (YS R peer x).1.2;have h1:=L6 R peer x;unfold Ze;show ((YS R peer x).1.1++_).length≤_;rw [UE,List.length_cons];omega
theorem wN (R:Room) (peer:Int) {i:Ro} (hi:S9 i):(Yf R peer i).1.1.length≤3000:=by
 unfold Yf;split
 ·exact Tk _
 split
 ·exact Tk _
 split
 ·have:=I6 peer i.gone R;have hg:=hi.g;omega
 ·exact Tk _
theorem JI (peer:Int):∀ (l:List Ro) (R:Room),(∀ i∈l,S9 i)→(ZC peer l R).1.1.length≤3000*l.length
 | [],R,hi=>Zw _
 | x :: l,R,hi=>by
  have h1:=wN R peer (hi x (List.mem_cons_self ..));have ih:=JI peer l (Yf R peer x).1.2 (fun i h=>hi i (List.mem_cons_of_mem _ h));unfold ZC;show ((Yf R peer x).1.1++_).length≤_;rw [UE,List.length_cons];omega
theorem BX (R:Room) (ep p:Int) (l:List UInt8):(YG R ep p l).1.1.turns.length≤24000:=by
 unfold YG;by_cases h1:(XN l).2≠0
 ·rw [ZR h1];exact Tk _
 rw [Z4 h1];by_cases h2:(!Y_ R p)=true
 ·rw [ZR h2];exact Tk _
 rw [Z4 h2];by_cases h3:192≤at8 l 1∧at8 l 1≤223
 ·rw [M7 h3 Zo];have hk:=Si l;have:=JI p (Yj l).1 R hk.1;show (ZC p (Yj l).1 R).1.1.length≤24000;omega
 ·obtain ⟨P,d,hp⟩:=He h3 Zo;rw [hp];dsimp only;unfold Vg;split <;> exact Tk _
theorem p7 (R:Room) (ep:Int) (o:Rm.Op) (l:List UInt8) (sv:Value):(take R ep o l sv).1.1.turns.length≤24000:=by
 unfold take;split
 ·exact BX _ _ _ _
 split
 ·exact Tk _
 ·rename_i h
  show (Wm R o sv).1.1.length≤24000;unfold Wm;split
  ·exact Tk _
  ·have:=p_ R o sv;exact PO this Zd
theorem NB (L:List V7) (k:Nat):(Z5 L k).turns.length≤24000:=by
 unfold Z5;split
 ·exact Tk _
 ·exact p7 _ _ _ _ _
theorem P5 (L:List V7) (n:Int):∀ k,(Yv L n k).length≤24000*k
 | 0=>Zw _
 | k+1=>by
  have ih:=P5 L n k;have h1:=Nt n k (Z5 L k).turns (Yv L n k);have h2:=NB L k;show (WX n k (Yv L n k) (Z5 L k).turns).length≤_;omega
def Oy (L:List V7) (k:Nat):List (KI × FJ):=(List.range k).map fun j=>((Z5 L j).XW,(Z5 L j).WJ)
theorem Aq (L:List V7) (k:Nat):Oy L (k+1)=Oy L k++[((Z5 L k).XW,(Z5 L k).WJ)]:=by unfold Oy;rw [qE,NR];rfl
theorem GV (L:List V7) (k:Nat):(Oy L k).length=k:=by unfold Oy;rw [TB,List.length_range]
end Go.Proofs.By
