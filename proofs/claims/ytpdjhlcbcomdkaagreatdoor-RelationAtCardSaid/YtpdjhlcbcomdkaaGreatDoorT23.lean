/- Part of a proof. -/
import Derived.Test.YtpdjhlcbcomdkaaGreatDoorT15
import Derived.Test.YtpdjhlcbcomdkaaGreatDoorT22
set_option linter.unusedVariables false
set_option linter.unusedSimpArgs false
set_option maxRecDepth 100000
set_option maxHeartbeats 16000000
open Go Go.Q Go.Qr Go.Proofs.Tryz
namespace Go.Proofs.By
def long(b:List UInt8):Nat:=at8 b 2*256+at8 b 3
theorem se{b:List UInt8}(h:4≤b.length):get b 2 2=long b:=by
 match b,h with
 | x0 :: x1 :: x2 :: x3 :: t,_=>
  have hw:within (x0 :: x1 :: x2 :: x3 :: t).length 2 2=true:=within_iff.2 ⟨by decide,by decide,by decide,by simp;omega⟩;unfold get;rw[ZU hw];simp[be,long,at8]
theorem PD{b:List UInt8}{m p q:Nat}(h1:p+q≤m)(h2:4+m≤b.length)(hq:1≤q)(hq8:q≤8):get ((b.drop 4).take m) (p:Int) (q:Int)=get b ((p:Int)+4) (q:Int):=by
 have hl:((b.drop 4).take m).length=m:=by rw[SY,Ra];omega
 have w1:within ((b.drop 4).take m).length (p:Int) (q:Int)=true:=within_iff.2 ⟨Zo,Zo,Zo,by rw[hl];omega⟩;have w2:within b.length ((p:Int)+4) (q:Int)=true:=within_iff.2 ⟨Zo,Zo,Zo,Zo⟩;unfold get;rw[ZU w1,ZU w2]
 congr 1
 have e1:((p:Int)+4).toNat=4+p:=by omega
 have e2:(p:Int).toNat=p:=by omega
 have e3:(q:Int).toNat=q:=by omega
 rw[e1,e2,e3,List.drop_take,List.drop_drop,List.take_take,Nat.min_eq_left Zo]
theorem A3{b:List UInt8}{n p q:Nat}(h1:p+q≤n)(h2:n≤b.length)(hq:1≤q)(hq8:q≤8):get (b.take n) (p:Int) (q:Int)=get b (p:Int) (q:Int):=by
 have hl:(b.take n).length=n:=by rw[SY];omega
 have w1:within (b.take n).length (p:Int) (q:Int)=true:=within_iff.2 ⟨Zo,Zo,Zo,by rw[hl];omega⟩;have w2:within b.length (p:Int) (q:Int)=true:=within_iff.2 ⟨Zo,Zo,Zo,Zo⟩;unfold get;rw[ZU w1,ZU w2]
 congr 1
 have e2:(p:Int).toNat=p:=by omega
 have e3:(q:Int).toNat=q:=by omega
 rw[e2,e3,List.drop_take,List.take_take,Nat.min_eq_left Zo]
theorem pT{c:List UInt8}{p:Nat}(h:p+4≤c.length):get c (p:Int) 4=get c (p:Int) 2*65536+get c ((p:Int)+2) 2:=by
 have w1:within c.length (p:Int) 4=true:=within_iff.2 ⟨by decide,by decide,Zo,Zo⟩;have w2:within c.length (p:Int) 2=true:=within_iff.2 ⟨by decide,by decide,Zo,Zo⟩;have w3:within c.length ((p:Int)+2) 2=true:=within_iff.2 ⟨by decide,by decide,Zo,Zo⟩;unfold get;rw[ZU w1,ZU w2,ZU w3];have e1:((p:Int)+2).toNat=p+2:=by omega
 have e2:(p:Int).toNat=p:=by omega
 rw[e1,e2]
 have hd:∃a0 a1 a2 a3 t,c.drop p=a0 :: a1 :: a2 :: a3 :: t:=by
  have hl:4≤(c.drop p).length:=by rw[Ra];omega
  match c.drop p,hl with
  | a0 :: a1 :: a2 :: a3 :: t,_=>exact⟨a0,a1,a2,a3,t,rfl⟩
 obtain⟨a0,a1,a2,a3,t,hd⟩:=hd;have oh:c.drop (p+2)=a2 :: a3 :: t:=by rw[←List.drop_drop,hd];rfl
 rw[hd,oh];show be [a0,a1,a2,a3]=be [a0,a1]*65536+be [a2,a3];simp only[be,List.foldl];omega
def Vb(b:List UInt8)(k:Nat)(n least most:Int):(Ru×Nat)×Int:=
 if n<least∨most<n∨(long b:Int)≠Wj k n.toNat then((XP,0),1)
 else if b.length<4+4*long b then((XP,0),2)
 else((Xp k n.toNat ((b.drop 4).take (4*long b)),4+4*long b),0)
def KS(b:List UInt8):(Ru×Nat)×Int:=
 if b.length<4 then((XP,0),2)
 else if at8 b 0/32≠4 then((XP,0),1)
 else if at8 b 1=200∨at8 b 1=201 then Vb b (at8 b 1) (at8 b 0%32:Nat) 0 15
 else if at8 b 1=203 then Vb b 203 (at8 b 0%32:Nat) 1 15
 else if at8 b 1=205∨at8 b 1=206 then
  (if at8 b 0%32≠1 then((XP,0),4)
  else if at8 b 1=205 then Vb b 205 ((long b:Int)-2) 1 16 else Vb b 206 ((long b:Int)-2) 0 0)
 else((XP,0),4)
theorem rZ{b:List UInt8}{m p:Nat}(h1:p+24≤m)(h2:4+m≤b.length):blkR ((b.drop 4).take m) (p:Int)=NG b (p+4):=by
 have g:∀d q:Nat,d+q≤24→1≤q→q≤8→get ((b.drop 4).take m) ((p:Int)+(d:Int)) (q:Int)=get b ((p+4+d:Nat):Int) (q:Int):=fun d q hd hq hq8=>by
  have h:=PD (b:=b) (m:=m) (p:=p+d) (q:=q) Zo h2 hq hq8;rw[show((p:Int)+(d:Int))=((p+d:Nat):Int) by omega,h,show(((p+d:Nat):Int)+4)=((p+4+d:Nat):Int) by omega]
 have e0:get ((b.drop 4).take m) (p:Int) 4=get b ((p+4:Nat):Int) 4:=by
  have h:=PD (b:=b) (m:=m) (p:=p) (q:=4) Zo h2 Zo Zo;have h:get ((b.drop 4).take m) (p:Int) 4=get b ((p:Int)+4) 4:=h;rw[h,show((p:Int)+4)=((p+4:Nat):Int) by omega]
 have e4:get ((b.drop 4).take m) ((p:Int)+4) 1=get b ((p+4+4:Nat):Int) 1:=g 4 1 Zo Zo Zo;have e5:get ((b.drop 4).take m) ((p:Int)+5) 3=get b ((p+4+5:Nat):Int) 3:=g 5 3 Zo Zo Zo;have e8:get ((b.drop 4).take m) ((p:Int)+8) 4=get b ((p+4+8:Nat):Int) 4:=g 8 4 Zo Zo Zo;have e12:get ((b.drop 4).take m) ((p:Int)+12) 4=get b ((p+4+12:Nat):Int) 4:=g 12 4 Zo Zo Zo;have e16:get ((b.drop 4).take m) ((p:Int)+16) 4=get b ((p+4+16:Nat):Int) 4:=g 16 4 Zo Zo Zo;have e20:get ((b.drop 4).take m) ((p:Int)+20) 4=get b ((p+4+20:Nat):Int) 4:=g 20 4 Zo Zo Zo;unfold blkR NG;rw[e0,e4,e5,e8,e12,e16,e20]
theorem vz{b:List UInt8}{m:Nat}(hm:m=at8 b 0%32)(k0:at8 b 1=200∨at8 b 1=201)(hl:long b=Wj (at8 b 1) m)(hb:4+4*long b≤b.length):report b=Xp (at8 b 1) m ((b.drop 4).take (4*long b)):=by
 subst hm;rcases k0 with k|k
 ·have hw:long b=6+6*(at8 b 0%32):=by rw[hl,k];rfl
  have g:=fun(p q:Nat) (hp:p+q≤24) (h1:1≤q) (h8:q≤8)=>PD (b:=b) (m:=4*long b) (p:=p) (q:=q) Zo hb h1 h8
  have g0:get ((b.drop 4).take (4*long b)) 0 4=get b 4 4:=g 0 4 Zo Zo Zo;have g4:get ((b.drop 4).take (4*long b)) 4 8=get b 8 8:=g 4 8 Zo Zo Zo;have g12:get ((b.drop 4).take (4*long b)) 12 4=get b 16 4:=g 12 4 Zo Zo Zo;have g16:get ((b.drop 4).take (4*long b)) 16 4=get b 20 4:=g 16 4 Zo Zo Zo;have g20:get ((b.drop 4).take (4*long b)) 20 4=get b 24 4:=g 20 4 Zo Zo Zo
  have WX:Vf ((b.drop 4).take (4*long b)) 24 (at8 b 0%32)=(List.range (at8 b 0%32)).map fun(i:Nat)=>NG b (28+24*i):=by
   unfold Vf;refine List.map_congr_left fun i hi=>?_
   rw[List.mem_range]at hi;rw[rZ Zo hb]
   congr 1
   omega
  unfold report Xp;rw[k];simp[g0,g4,g12,g16,g20,WX]
 ·have hw:long b=1+6*(at8 b 0%32):=by rw[hl,k];rfl
  have g0:get ((b.drop 4).take (4*long b)) 0 4=get b 4 4:=PD (b:=b) (m:=4*long b) (p:=0) (q:=4) Zo hb Zo Zo
  have WX:Vf ((b.drop 4).take (4*long b)) 4 (at8 b 0%32)=(List.range (at8 b 0%32)).map fun(i:Nat)=>NG b (8+24*i):=by
   unfold Vf;refine List.map_congr_left fun i hi=>?_
   rw[List.mem_range]at hi;rw[rZ Zo hb]
   congr 1
   omega
  unfold report Xp;rw[k];simp[g0,WX]
theorem vw{b:List UInt8}(h1:4≤b.length)(h2:at8 b 0/32=4)(k0:at8 b 1=200∨at8 b 1=201):XV b=Vb b (at8 b 1) (at8 b 0%32:Nat) 0 15:=by
 have hg:=se h1
 have hr:UR (at8 b 1) (at8 b 0%32)=4+4*Wj (at8 b 1) (at8 b 0%32):=by
  unfold UR Wj;rcases k0 with k|k <;> rw[k] <;> simp <;> omega
 have e1:right b=if 15<at8 b 0%32∨(get b 2 2+1)*4≠UR (at8 b 1) (at8 b 0%32)then(0,1)else if b.length<UR (at8 b 1) (at8 b 0%32)then(0,2)else(UR (at8 b 1) (at8 b 0%32),0):=by
  unfold right;rw[Z3 Zo,Z3 Zo,Z3 Zo]
 unfold XV Vb;rw[e1,hg,hr,Wl];by_cases Ny:15<at8 b 0%32∨(long b+1)*4≠4+4*Wj (at8 b 1) (at8 b 0%32)
 ·rw[ZU Ny,ZU (by dsimp only;decide),ZU Zo]
 ·rw[Z3 Ny,Z3 (show¬(((at8 b 0%32:Nat):Int)<0∨(15:Int)<((at8 b 0%32:Nat):Int)∨(long b:Int)≠(Wj (at8 b 1) (at8 b 0%32):Nat)) by omega)];have hl:long b=Wj (at8 b 1) (at8 b 0%32):=by omega
  by_cases hs:b.length<4+4*Wj (at8 b 1) (at8 b 0%32)
  ·rw[ZU hs,ZU (by dsimp only;decide),ZU (by rw[hl];exact hs)]
  ·rw[Z3 hs,Z3 (by dsimp only;decide),Z3 (by rw[hl];exact hs),vz rfl k0 hl (by rw[hl];omega),←hl]
theorem LL{b:List UInt8}{n p:Nat}(hn:n≤b.length)(hp:p≤n):XR (b.take n) p=(List.range ((n-p)/4)).map fun(i:Nat)=>get b ((p+4*i:Nat):Int) 4:=by
 unfold XR;rw[SY,Nat.min_eq_left hn];refine List.map_congr_left fun i hi=>?_
 rw[List.mem_range]at hi;exact A3 (p:=p+4*i) (q:=4) Zo hn Zo Zo
theorem JH{b:List UInt8}(hb:4+4*long b≤b.length):parts (b.take (4+4*long b)) 203=Xp 203 (long b) ((b.drop 4).take (4*long b))∧(2≤long b→parts (b.take (4+4*long b)) 205=Xp 205 (long b-2) ((b.drop 4).take (4*long b)))∧(long b=2→parts (b.take (4+4*long b)) 206=Xp 206 0 ((b.drop 4).take (4*long b))):=by
 refine⟨?_,fun h2=>?_,fun h2=>?_⟩
 ·have e:(XR (b.take (4+4*long b)) 4).map (fun(n:Nat)=>(n:Int))=T6 ((b.drop 4).take (4*long b)) (long b):=by
   rw[LL hb Zo,List.map_map,show(4+4*long b-4)/4=long b by omega];unfold T6;refine List.map_congr_left fun i hi=>?_
   rw[List.mem_range]at hi;have h:get ((b.drop 4).take (4*long b)) ((4*i:Nat):Int) 4=get b (((4*i:Nat):Int)+4) 4:=PD (b:=b) (m:=4*long b) (p:=4*i) (q:=4) Zo hb Zo Zo;show((get b ((4+4*i:Nat):Int) 4:Nat):Int)=_;rw[show((4+4*i:Nat):Int)=((4*i:Nat):Int)+4 by omega,←h]
  unfold parts;rw[ZU rfl,e];rfl
 ·have g0:get ((b.drop 4).take (4*long b)) 0 4=get (b.take (4+4*long b)) 4 4:=by
   exact cd
  have g4:get ((b.drop 4).take (4*long b)) 4 4=get (b.take (4+4*long b)) 8 4:=by
   exact cf
  have e:(XR (b.take (4+4*long b)) 12).map (fun(n:Nat)=>(((n/65536:Nat):Int),((n%65536:Nat):Int)))=S_ ((b.drop 4).take (4*long b)) (long b-2):=by
   rw[LL hb Zo,List.map_map,show(4+4*long b-12)/4=long b-2 by omega];unfold S_;refine List.map_congr_left fun i hi=>?_
   rw[List.mem_range]at hi;have h4:=PD (b:=b) (m:=4*long b) (p:=8+4*i) (q:=4) Zo hb Zo Zo;have hs:=pT (c:=(b.drop 4).take (4*long b)) (p:=8+4*i) (by rw[SY,Ra];omega);have OT:=Mw ((b.drop 4).take (4*long b)) (((8+4*i:Nat):Int)+2);show(((get b ((12+4*i:Nat):Int) 4/65536:Nat):Int),((get b ((12+4*i:Nat):Int) 4%65536:Nat):Int))=_;have e12:((12+4*i:Nat):Int)=((8+4*i:Nat):Int)+4:=by omega
   have h4':get ((b.drop 4).take (4*long b)) ((8+4*i:Nat):Int) 4=get b (((8+4*i:Nat):Int)+4) 4:=h4;rw[e12,←h4',hs];generalize get ((b.drop 4).take (4*long b)) ((8+4*i:Nat):Int) 2=u;generalize get ((b.drop 4).take (4*long b)) (((8+4*i:Nat):Int)+2) 2=v at *
   rw[show(u*65536+v)/65536=u by omega,show(u*65536+v)%65536=v by omega]
  unfold parts Xp;rw[Z3 Zd,e];simp only[g0,g4];rfl
 ·have g0:get ((b.drop 4).take (4*long b)) 0 4=get (b.take (4+4*long b)) 4 4:=by
   exact cd
  have g4:get ((b.drop 4).take (4*long b)) 4 4=get (b.take (4+4*long b)) 8 4:=by
   exact cf
  have e:XR (b.take (4+4*long b)) 12=[]:=by
   rw[LL hb Zo,show(4+4*long b-12)/4=0 by omega];rfl
  unfold parts Xp;rw[Z3 Zd,e];simp only[g0,g4];rfl
theorem yM(b:List UInt8):Y5 b=KS b:=by
 unfold KS;by_cases h1:b.length<4
 ·rw[ZU h1];unfold Y5;rw[ZU h1]
 rw[Z3 h1];by_cases h2:at8 b 0/32≠4
 ·rw[ZU h2];unfold Y5;rw[Z3 h1,ZU h2]
 rw[Z3 h2];have hg:=se (b:=b) Zo
 have e0:Y5 b=if(Xr b).2=false then((XP,0),4)else if(Xr b).1=200∨(Xr b).1=201 then XV b else
   if(XG b (Xr b).1).2=false then((XP,0),1)else if b.length<(XG b (Xr b).1).1 then((XP,0),2)else((parts (b.take (XG b (Xr b).1).1) (Xr b).1,(XG b (Xr b).1).1),0):=by
  unfold Y5;rw[Z3 h1,Z3 h2]
 by_cases k0:at8 b 1=200∨at8 b 1=201
 ·have hi:Xr b=(at8 b 1,true):=by unfold Xr;rw[ZU Zo]
  rw[ZU k0,e0,hi,Z3 Zi,ZU k0];exact vw Zo Zo k0
 rw[Z3 k0];by_cases k3:at8 b 1=203
 ·have hi:Xr b=(203,true):=by unfold Xr;rw[ZU Zo,k3]
  have hlen:XG b 203=((long b+1)*4,decide (1≤at8 b 0%32)&&decide (at8 b 0%32≤15)&&decide ((long b+1)*4=4+4*(at8 b 0%32))):=by unfold XG;rw[hg];rfl
  rw[ZU k3,e0,hi,Z3 Zi,Z3 Zd,hlen];have wL:Wj 203 (at8 b 0%32)=at8 b 0%32:=rfl;unfold Vb;rw[Wl,wL];by_cases Ny:at8 b 0%32<1∨15<at8 b 0%32∨long b≠at8 b 0%32
  ·rw[ZU (by simp only[Bool.and_eq_false_iff,decide_eq_false_iff_not];omega),ZU (show((at8 b 0%32:Nat):Int)<1∨(15:Int)<((at8 b 0%32:Nat):Int)∨(long b:Int)≠((at8 b 0%32:Nat):Int) by omega)]
  ·rw[Z3 (by simp only[Bool.and_eq_false_iff,decide_eq_false_iff_not];omega),Z3 (show¬(((at8 b 0%32:Nat):Int)<1∨(15:Int)<((at8 b 0%32:Nat):Int)∨(long b:Int)≠((at8 b 0%32:Nat):Int)) by omega)];dsimp only;rw[show(long b+1)*4=4+4*long b by omega];by_cases hs:b.length<4+4*long b
   ·rw[ZU hs,ZU hs]
   ·rw[Z3 hs,Z3 hs,(JH Zo).1,show at8 b 0%32=long b by omega]
 rw[Z3 k3];by_cases k5:at8 b 1=205∨at8 b 1=206
 ·rw[ZU k5];have hi:Xr b=(at8 b 1,decide (at8 b 0%32=1)):=by unfold Xr;rw[Z3 Zo,ZU k5]
  by_cases hm:at8 b 0%32≠1
  ·rw[ZU hm,e0,hi,ZU (by simpa using hm)]
  rw[Z3 hm];have af:at8 b 0%32=1:=by omega
  rw[e0,hi,af,Z3 Zi,Z3 k0];rcases k5 with k|k
  ·have hlen:XG b 205=((long b+1)*4,decide (16≤(long b+1)*4)&&decide ((long b+1)*4≤76)):=by unfold XG;rw[hg];rfl
   rw[k,ZU rfl,hlen];unfold Vb;by_cases Ny:long b<3∨18<long b
   ·rw[ZU (by simp only[Bool.and_eq_false_iff,decide_eq_false_iff_not];omega),ZU (by rcases Ny with h|h;exact WO Zo;exact WB (WO Zo))]
   ·have hn:((long b:Int)-2).toNat=long b-2:=by omega
    have hw:Wj 205 (long b-2)=long b:=by show 2+(long b-2)=long b;omega
    rw[Z3 (by simp only[Bool.and_eq_false_iff,decide_eq_false_iff_not];omega),hn,hw,Z3 (show¬((long b:Int)-2<1∨(16:Int)<(long b:Int)-2∨(long b:Int)≠((long b:Nat):Int)) by omega)];dsimp only;rw[show(long b+1)*4=4+4*long b by omega];by_cases hs:b.length<4+4*long b
    ·rw[ZU hs,ZU hs]
    ·rw[Z3 hs,Z3 hs,(JH Zo).2.1 Zo]
  ·have hlen:XG b 206=((long b+1)*4,decide ((long b+1)*4=12)):=by unfold XG;rw[hg];rfl
   rw[k,Z3 (show¬(206:Nat)=205 by decide)];dsimp only;rw[hlen];unfold Vb;by_cases Ny:long b≠2
   ·rw[ZU (by simp only[decide_eq_false_iff_not];omega),ZU (by exact WB (WB (show(long b:Int)≠((2:Nat):Int) by omega)))]
   ·have hn:((long b:Int)-2).toNat=0:=by omega
    rw[Z3 (by simp only[decide_eq_false_iff_not];omega),hn,Z3 (show¬((long b:Int)-2<0∨(0:Int)<(long b:Int)-2∨(long b:Int)≠((Wj 206 0:Nat):Int)) by show¬((long b:Int)-2<0∨(0:Int)<(long b:Int)-2∨(long b:Int)≠((2:Nat):Int));omega)];dsimp only;rw[show(long b+1)*4=4+4*long b by omega];by_cases hs:b.length<4+4*long b
    ·rw[ZU hs,ZU hs]
    ·rw[Z3 hs,Z3 hs,(JH Zo).2.2 Zo]
 ·rw[Z3 k5];have hi:Xr b=(0,false):=by unfold Xr;rw[Z3 Zo,Z3 k5]
  rw[e0,hi,ZU rfl]
open Go.RowKit Go.Proofs.Heap
open Go.Proofs.Rm (below_drewN)
theorem Pd(v:Value)(k n:Nat)(c:List UInt8)(w:World)(hv:X5 w v c)(hn:n≤1000)(hk:k=200∨k=201∨k=203∨k=205∨(k=206∧n=0)) :
  Calls prog 117 (Ja (k:Int) (n:Int) v) w fun e w'=>(∃a,e = .returned a∧S4 w' a (Xp k n c))∧Below w w w':=by
 rcases hk with rfl|rfl|rfl|rfl|⟨rfl,h0⟩
 ·exact vB v n c w hv hn
 ·exact vA v n c w hv hn
 ·exact q9 v n c w hv hn
 ·exact zr v n c w hv hn
 ·exact rf v n c w hv hn h0
set_option maxHeartbeats 40000000 in
theorem Bw(v:Value)(b:List UInt8)(w:World)(hv:X5 w v b)(hb:b.length≤512) :
  Calls prog 93 #[v] w fun e w'=>(∃a,e = .returned (.tuple #[a,.int .i64 ((Y5 b).1.2:Nat),.int .i64 (Y5 b).2])∧S4 w' a (Y5 b).1.1)∧Below w w w':=by
 have HX:Hid (Y5 b=KS b):=yM b;have HV:Hid (∀w',Below w w w'→X5 w' v b):=fun w' h=>hv.below h
 have UF:Hid (∀w2 er,w2.heap[w.heap.size]?=some (.cells Ya 173 (0,0))→Below w w w2→Y5 b=((XP,0),er)→(∃a,Ending.returned (.tuple (Qq Ya 0 er)) = .returned (.tuple #[a,.int .i64 ((Y5 b).1.2:Nat),.int .i64 (Y5 b).2])∧S4 (w2.setRow w Ya) a (Y5 b).1.1)∧Below w w (w2.setRow w Ya)):=fun w2 er h1 h2 h3=>by
  rw[h3];exact⟨⟨_,rfl,M6 ((Df w2).setRow h1 _)⟩,Z0 h2 (Zw _) _⟩
 have H0:Hid (GI w (((w.alloc (.cells Ya 173)).alloc (.cells Ya 173)).setRow (w.heap.size+1) Ya) Yz1):=GI.start w 0
 have hz:((w.alloc (.cells Ya 173)).alloc (.cells Ya 173)).heap[w.heap.size+1]?=some (.cells Ya 173 (0,0)):=by
  exact pF
 obtain⟨va,c,rfl,RV,uz⟩:∃a c,v = .slice a b.length c∧b.length≤c∧c≤maxLen:=by
  obtain⟨a,c,h1,h2,h3,_⟩:=id hv;exact⟨a,c,h1,h2,h3⟩
 clear hv;generalize Y5 b=X at *
 go_enter func93,ntmps93;go_upto_region 2 with(with_reducible refine Zs hz ?_)
 clear hz;generalize((w.alloc (.cells Ya 173)).alloc (.cells Ya 173)).setRow (w.heap.size+1) Ya=w1 at *
 have H1:=H0;clear H0;by_cases h1:b.length<4
 ·have VC:Hid (X=((XP,0),2)):=by show _=_;rw[HX.o];unfold KS;rw[ZU h1]
  have l1:decide ((b.length:Int)<4)=true:=Ww Zo;have TZ:=H1.o.z;have UH:=H1.o.Y8;go_wp2_with (first|(with_reducible refine Zl UH underlying173 ?_)|(with_reducible refine Zs TZ ?_))
  refine VD (v:= .tuple (Qq Ya 0 2)) ?_ rfl ?_
  ·exact Yx55
  exact UF.o _ 2 TZ H1.o.Zf VC.o
 have l1:decide ((b.length:Int)<4)=false:=Wz Zo;obtain⟨g,off,cap,e1,-,-,hc⟩:=RI (HV.o w1 H1.o.Zf) Zo;cases e1;have d0:=hc 0 Zo;have d1:=hc 1 Zo;have d2:=hc 2 Zo;have d3:=hc 3 Zo;rw[Z1g]at d0;have i0:(0:Int)<(b.length:Int):=by omega
 have i1:(1:Int)<(b.length:Int):=by omega
 have i2:(2:Int)<(b.length:Int):=by omega
 have i3:(3:Int)<(b.length:Int):=by omega
 have Mo:Hid (X=if at8 b 0/32≠4 then((XP,0),1)
  else if at8 b 1=200∨at8 b 1=201 then Vb b (at8 b 1) (at8 b 0%32:Nat) 0 15
  else if at8 b 1=203 then Vb b 203 (at8 b 0%32:Nat) 1 15
  else if at8 b 1=205∨at8 b 1=206 then
   (if at8 b 0%32≠1 then((XP,0),4)
   else if at8 b 1=205 then Vb b 205 ((long b:Int)-2) 1 16 else Vb b 206 ((long b:Int)-2) 0 0)
  else((XP,0),4)):=by show _=_;rw[HX.o];unfold KS;rw[Z3 h1]
 have bI:Hid (long b=at8 b 2*256+at8 b 3):=rfl;have r0:=Xj b 0;have r1:=Xj b 1;have r2:=Xj b 2;have r3:=Xj b 3;clear hc HX h1;by_cases h2:at8 b 0/32≠4
 ·have VC:Hid (X=((XP,0),1)):=by show _=_;rw[Mo.o,ZU h2]
  have q:(((at8 b 0:Nat):Int)/32 !=4)=true:=by rw[RH];omega
  have TZ:=H1.o.z;have UH:=H1.o.Y8;go_wp2_with (first|(with_reducible refine Zl UH underlying173 ?_)|(with_reducible refine Zs TZ ?_))
  refine VD (v:= .tuple (Qq Ya 0 1)) ?_ rfl ?_
  ·exact Yx55
  exact UF.o _ 1 TZ H1.o.Zf VC.o
 have q2:(((at8 b 0:Nat):Int)/32 !=4)=false:=by rw[bne_eq_false_iff_eq];omega
 rw[Z3 h2]at Mo;obtain⟨x0,P7⟩:∃x,x=at8 b 0:=⟨_,rfl⟩;obtain⟨x1,SF⟩:∃x,x=at8 b 1:=⟨_,rfl⟩;obtain⟨x2,NK⟩:∃x,x=at8 b 2:=⟨_,rfl⟩;obtain⟨x3,SQ⟩:∃x,x=at8 b 3:=⟨_,rfl⟩;obtain⟨Lg,hLg⟩:∃x,x=long b:=⟨_,rfl⟩;obtain⟨m,hm⟩:∃m,m=x0%32:=⟨_,rfl⟩;rw[←P7,←SF,←hLg,←hm]at Mo;rw[←P7]at d0 q2 r0;rw[←SF]at d1 r1;rw[←NK]at d2 r2;rw[←SQ]at d3 r3;have HL0:Lg=x2*256+x3:=by rw[hLg,NK,SQ];exact bI.o
 have qm:(x0:Int)%32=(m:Int):=by omega
 have qa:IntKind.i64.wrap ((x2:Int)*256)=(x2:Int)*256:=Te _ Zo;have qb:IntKind.i64.wrap ((x2:Int)*256+(x3:Int))=(Lg:Int):=by rw[Te _ Zo];omega
 have qs:IntKind.i64.wrap ((Lg:Int)-2)=(Lg:Int)-2:=Te _ Zo;have q4:IntKind.i64.wrap (4*(Lg:Int))=4*(Lg:Int):=Te _ Zo;obtain⟨Z,hZ⟩:∃Z:Nat,Z=4+4*Lg:=⟨_,rfl⟩;have q5:IntKind.i64.wrap (4+4*(Lg:Int))=(Z:Int):=by rw[Te _ Zo];omega
 have hm32:m<32:=by omega
 have hLb:Lg≤70000:=by omega
 have oV:Hid (∀k n l u,Vb b k n l u=if n<l∨u<n∨(Lg:Int)≠Wj k n.toNat then((XP,0),1)else if b.length<Z then((XP,0),2)else((Xp k n.toNat ((b.drop 4).take (4*Lg)),Z),0)):=fun k n l u=>by unfold Vb;rw[←hLg,hZ]
 have HZ:=Zh hZ;clear HL0;have hZ4:4≤Z:=by omega
 clear hZ;generalize Vb b=RP at *
 have HK:x1=200∨x1=201∨x1=203∨x1=205∨x1=206∨(¬x1=200∧¬x1=201∧¬x1=203∧¬x1=205∧¬x1=206):=by omega
 clear bI P7 SF NK SQ hLg hm h2;go_upto_region 8 with fail
 go_quiet (fail)
 have H1:=Zh (H1.o.below (below_drewN (YI _ _) nq));generalize w1.drewN nq=w2 at *
 clear d0 d1 d2 d3;have wm:=Zh (fun(k n:Nat) (hn:n≤100000)=>vH k n w2 hn);rcases HK with LM|aU|Hl|uP|qC|⟨LM,aU,Hl,uP,qC⟩
 ·have Nn:Hid (X=RP x1 (m:Int) 0 15):=by show _=_;rw[Mo.o,ZU Zo]
  rw[oV.o,Wl,LM]at Nn;subst LM;have CW:=Zh (wm.o 200 m Zo);have wL:Wj 200 m≤1000:=by unfold Wj;simp;omega
  have CW:=CW;generalize Wj 200 m=R at *
  clear Mo oV wm;have dl:decide ((m:Int)<0)=false:=Wz Zo;by_cases sF:15<m
  ·exact Yx99
  have dh:decide (15<(m:Int))=false:=Wz Zo;by_cases hw:Lg=R
  rotate_left
  ·exact Yx98
  have iN:Hid (X=if b.length<Z then((XP,0),2)else((Xp 200 m ((b.drop 4).take (4*Lg)),Z),0)):=by show _=_;rw[Nn.o,Z3 Zo]
  subst hw;by_cases Uk:b.length<Z
  ·exact Yx3
  have dz:decide ((b.length:Int)<(Z:Int))=false:=Wz Zo;have VC:Hid (X=((Xp 200 m ((b.drop 4).take (4*Lg)),Z),0)):=by show _=_;rw[iN.o,Z3 Uk]
  obtain⟨a',Us,Hk⟩:=Wc (P:=prog) VG (some ⟨g,off,none⟩) b.length c 4 Z hZ4 Zo RV
  have Ht:Hid (∀w',Below w w w'→X5 w' (.slice a' (Z-4) (c-4)) ((b.drop 4).take (4*Lg))):=fun w' h=>by
   exact ky
  have hH:∀w,(Instr.slice 30 (.slice (some ⟨g,off,none⟩) b.length c) (some (.int .i64 4)) (some (.int .i64 (Z:Int))) none).run prog w = .ok (.slice a' (Z-4) (c-4)) w:=Us;have CI:=Zh (Pd _ 200 m _ w2 (Ht.o w2 H1.o.Zf) Zo Zo);generalize Xp 200 m ((b.drop 4).take (4*Lg))=i at *
  exact Yx2
 ·have Nn:Hid (X=RP x1 (m:Int) 0 15):=by show _=_;rw[Mo.o,ZU Zo]
  rw[oV.o,Wl,aU]at Nn;subst aU;have CW:=Zh (wm.o 201 m Zo);have wL:Wj 201 m≤1000:=by unfold Wj;simp;omega
  have CW:=CW;generalize Wj 201 m=R at *
  clear Mo oV wm;have dl:decide ((m:Int)<0)=false:=Wz Zo;by_cases sF:15<m
  ·exact Yx99
  have dh:decide (15<(m:Int))=false:=Wz Zo;by_cases hw:Lg=R
  rotate_left
  ·exact Yx98
  have iN:Hid (X=if b.length<Z then((XP,0),2)else((Xp 201 m ((b.drop 4).take (4*Lg)),Z),0)):=by show _=_;rw[Nn.o,Z3 Zo]
  subst hw;by_cases Uk:b.length<Z
  ·exact Yx3
  have dz:decide ((b.length:Int)<(Z:Int))=false:=Wz Zo;have VC:Hid (X=((Xp 201 m ((b.drop 4).take (4*Lg)),Z),0)):=by show _=_;rw[iN.o,Z3 Uk]
  obtain⟨a',Us,Hk⟩:=Wc (P:=prog) VG (some ⟨g,off,none⟩) b.length c 4 Z hZ4 Zo RV
  have Ht:Hid (∀w',Below w w w'→X5 w' (.slice a' (Z-4) (c-4)) ((b.drop 4).take (4*Lg))):=fun w' h=>by
   exact ky
  have hH:∀w,(Instr.slice 30 (.slice (some ⟨g,off,none⟩) b.length c) (some (.int .i64 4)) (some (.int .i64 (Z:Int))) none).run prog w = .ok (.slice a' (Z-4) (c-4)) w:=Us;have CI:=Zh (Pd _ 201 m _ w2 (Ht.o w2 H1.o.Zf) Zo Zo);generalize Xp 201 m ((b.drop 4).take (4*Lg))=i at *
  exact Yx2
 ·have Nn:Hid (X=RP 203 (m:Int) 1 15):=by show _=_;rw[Mo.o,Z3 Zo,ZU Hl]
  rw[oV.o,Wl]at Nn;subst Hl;have CW:=Zh (wm.o 203 m Zo);have wL:Wj 203 m≤1000:=by unfold Wj;simp;omega
  have CW:=CW;generalize Wj 203 m=R at *
  clear Mo oV wm;by_cases qf:m<1
  ·have VC:Hid (X=((XP,0),1)):=by show _=_;rw[Nn.o,ZU Zo]
   have dl:decide ((m:Int)<1)=true:=Ww Zo;exact Yx1
  have dl:decide ((m:Int)<1)=false:=Wz Zo;by_cases sF:15<m
  ·exact Yx99
  have dh:decide (15<(m:Int))=false:=Wz Zo;by_cases hw:Lg=R
  rotate_left
  ·exact Yx98
  have iN:Hid (X=if b.length<Z then((XP,0),2)else((Xp 203 m ((b.drop 4).take (4*Lg)),Z),0)):=by show _=_;rw[Nn.o,Z3 Zo]
  subst hw;by_cases Uk:b.length<Z
  ·exact Yx3
  have dz:decide ((b.length:Int)<(Z:Int))=false:=Wz Zo;have VC:Hid (X=((Xp 203 m ((b.drop 4).take (4*Lg)),Z),0)):=by show _=_;rw[iN.o,Z3 Uk]
  obtain⟨a',Us,Hk⟩:=Wc (P:=prog) VG (some ⟨g,off,none⟩) b.length c 4 Z hZ4 Zo RV
  have Ht:Hid (∀w',Below w w w'→X5 w' (.slice a' (Z-4) (c-4)) ((b.drop 4).take (4*Lg))):=fun w' h=>by
   exact ky
  have hH:∀w,(Instr.slice 30 (.slice (some ⟨g,off,none⟩) b.length c) (some (.int .i64 4)) (some (.int .i64 (Z:Int))) none).run prog w = .ok (.slice a' (Z-4) (c-4)) w:=Us;have CI:=Zh (Pd _ 203 m _ w2 (Ht.o w2 H1.o.Zf) Zo Zo);generalize Xp 203 m ((b.drop 4).take (4*Lg))=i at *
  exact Yx2
 ·have iM:Hid (X=if m≠1 then((XP,0),4)else RP 205 ((Lg:Int)-2) 1 16):=by show _=_;rw[Mo.o,Z3 Zo,Z3 Zo,ZU Zo];rw[ZU uP]
  subst uP;clear Mo;by_cases Bc:m=1
  rotate_left
  ·exact Yx23
  have Nn:Hid (X=RP 205 ((Lg:Int)-2) 1 16):=by show _=_;rw[iM.o,Z3 Zo]
  rw[oV.o]at Nn;subst Bc;by_cases qf:(Lg:Int)-2<1
  ·have VC:Hid (X=((XP,0),1)):=by show _=_;rw[Nn.o,ZU (WO qf)]
   have dl:decide ((Lg:Int)-2<1)=true:=Ww qf;have CW:=Zh (wm.o 0 0 Zo);exact Yx1
  have dl:decide ((Lg:Int)-2<1)=false:=Wz qf;by_cases sF:16<(Lg:Int)-2
  ·have VC:Hid (X=((XP,0),1)):=by show _=_;rw[Nn.o,ZU (WB (WO sF))]
   have dh:decide (16<(Lg:Int)-2)=true:=Ww sF;have CW:=Zh (wm.o 0 0 Zo);exact Yx1
  have dh:decide (16<(Lg:Int)-2)=false:=Wz sF;obtain⟨N,hN⟩:∃N:Nat,(Lg:Int)-2=(N:Int):=⟨Lg-2,Zo⟩;rw[hN,Wl]at Nn;have CW:=Zh (wm.o 205 N Zo);have wL:(Wj 205 N:Int)=(Lg:Int):=by show((2+N:Nat):Int)=_;omega
  rw[wL]at CW Nn;rw[hN]at dl dh;replace qs:=qs.trans hN;have HNB:Hid ((N:Int)=(Lg:Int)-2∧¬(16:Int)<(Lg:Int)-2):=⟨hN.symm,sF⟩;have iN:Hid (X=if b.length<Z then((XP,0),2)else((Xp 205 N ((b.drop 4).take (4*Lg)),Z),0)):=by show _=_;rw[Nn.o,Z3 Zo]
  clear Nn iM oV wm wL hN qf sF;by_cases Uk:b.length<Z
  ·exact Yx3
  have dz:decide ((b.length:Int)<(Z:Int))=false:=Wz Zo;have VC:Hid (X=((Xp 205 N ((b.drop 4).take (4*Lg)),Z),0)):=by show _=_;rw[iN.o,Z3 Uk]
  obtain⟨a',Us,Hk⟩:=Wc (P:=prog) VG (some ⟨g,off,none⟩) b.length c 4 Z hZ4 Zo RV
  have Ht:Hid (∀w',Below w w w'→X5 w' (.slice a' (Z-4) (c-4)) ((b.drop 4).take (4*Lg))):=fun w' h=>by
   exact ky
  have hH:∀w,(Instr.slice 30 (.slice (some ⟨g,off,none⟩) b.length c) (some (.int .i64 4)) (some (.int .i64 (Z:Int))) none).run prog w = .ok (.slice a' (Z-4) (c-4)) w:=Us;have CI:=Zh (Pd _ 205 N _ w2 (Ht.o w2 H1.o.Zf) (by have:=HNB.o;omega) Zo);generalize Xp 205 N ((b.drop 4).take (4*Lg))=i at *
  exact Yx2
 ·have iM:Hid (X=if m≠1 then((XP,0),4)else RP 206 ((Lg:Int)-2) 0 0):=by show _=_;rw[Mo.o,Z3 Zo,Z3 Zo,ZU Zo];rw[Z3 (show¬x1=205 by omega)]
  subst qC;clear Mo;by_cases Bc:m=1
  rotate_left
  ·exact Yx23
  have Nn:Hid (X=RP 206 ((Lg:Int)-2) 0 0):=by show _=_;rw[iM.o,Z3 Zo]
  rw[oV.o]at Nn;subst Bc;by_cases qf:(Lg:Int)-2<0
  ·have VC:Hid (X=((XP,0),1)):=by show _=_;rw[Nn.o,ZU (WO qf)]
   have dl:decide ((Lg:Int)-2<0)=true:=Ww qf;have CW:=Zh (wm.o 0 0 Zo);exact Yx1
  have dl:decide ((Lg:Int)-2<0)=false:=Wz qf;by_cases sF:0<(Lg:Int)-2
  ·have VC:Hid (X=((XP,0),1)):=by show _=_;rw[Nn.o,ZU (WB (WO sF))]
   have dh:decide (0<(Lg:Int)-2)=true:=Ww sF;have CW:=Zh (wm.o 0 0 Zo);exact Yx1
  have dh:decide (0<(Lg:Int)-2)=false:=Wz sF;obtain⟨N,hN⟩:∃N:Nat,(Lg:Int)-2=(N:Int):=⟨Lg-2,Zo⟩;rw[hN,Wl]at Nn;have CW:=Zh (wm.o 206 N Zo);have wL:(Wj 206 N:Int)=(Lg:Int):=by show((2:Nat):Int)=_;omega
  rw[wL]at CW Nn;rw[hN]at dl dh;replace qs:=qs.trans hN;have HNB:Hid ((N:Int)=(Lg:Int)-2∧¬(0:Int)<(Lg:Int)-2):=⟨hN.symm,sF⟩;have iN:Hid (X=if b.length<Z then((XP,0),2)else((Xp 206 N ((b.drop 4).take (4*Lg)),Z),0)):=by show _=_;rw[Nn.o,Z3 Zo]
  clear Nn iM oV wm wL hN qf sF;have dh2:decide (0<N)=false:=Wz (by have:=HNB.o;omega);by_cases Uk:b.length<Z
  ·exact Yx3
  have dz:decide ((b.length:Int)<(Z:Int))=false:=Wz Zo;have VC:Hid (X=((Xp 206 N ((b.drop 4).take (4*Lg)),Z),0)):=by show _=_;rw[iN.o,Z3 Uk]
  obtain⟨a',Us,Hk⟩:=Wc (P:=prog) VG (some ⟨g,off,none⟩) b.length c 4 Z hZ4 Zo RV
  have Ht:Hid (∀w',Below w w w'→X5 w' (.slice a' (Z-4) (c-4)) ((b.drop 4).take (4*Lg))):=fun w' h=>by
   exact ky
  have hH:∀w,(Instr.slice 30 (.slice (some ⟨g,off,none⟩) b.length c) (some (.int .i64 4)) (some (.int .i64 (Z:Int))) none).run prog w = .ok (.slice a' (Z-4) (c-4)) w:=Us;have CI:=Zh (Pd _ 206 N _ w2 (Ht.o w2 H1.o.Zf) (by have:=HNB.o;omega) (by have:=HNB.o;omega));generalize Xp 206 N ((b.drop 4).take (4*Lg))=i at *
  exact Yx2
 ·have VC:Hid (X=((XP,0),4)):=by show _=_;rw[Mo.o,Z3 Zo,Z3 Zo,Z3 Zo]
  have e200:((x1:Int)==200)=false:=by rw[WM];omega
  have e201:((x1:Int)==201)=false:=by rw[WM];omega
  have e203:((x1:Int)==203)=false:=by rw[WM];omega
  have e205:((x1:Int)==205)=false:=by rw[WM];omega
  have e206:((x1:Int)==206)=false:=by rw[WM];omega
  have CW:=Zh (wm.o 0 0 Zo);have TZ:=H1.o.z;have UH:=H1.o.Y8;go_wp2_with (first|(go_at_call 116;refine CW.o.mono ?_;rintro e w' ⟨rfl,rfl⟩)|(with_reducible refine Zl UH underlying173 ?_)|(with_reducible refine Zs TZ ?_))
  refine VD (v:= .tuple (Qq Ya 0 4)) ?_ rfl ?_
  ·exact Yx55
  exact UF.o _ 4 TZ H1.o.Zf VC.o
end Go.Proofs.By
namespace Go.Proofs.By
open Go.RowKit Go.Proofs.Heap
open Go.Proofs.Rm (YL)
theorem Ew(v:Value)(b:List UInt8)(w:World)(hv:X5 w v b) :
  Calls prog 70 #[v] w fun e w'=>(∃a,e = .returned (.tuple #[a,.int .i64 (Yq b).2])∧YH w' a (Yq b).1)∧Below w w w':=by
 have HX:Hid (Yq b=if 512<b.length then([],5)else YE 8 b):=rfl;have HV:Hid (∀w',Below w w w'→X5 w' v b):=fun w' h=>hv.below h
 have hlen:=hv.len;obtain⟨va,c,rfl,RV,-⟩:=id hv;clear hv RV;generalize Yq b=X at *
 by_cases h1:512<b.length
 ·rw[ZU h1]at HX;clear HV;go_enter func70,ntmps70;go_wp2_with fail
  go_ret2
  exact⟨⟨.slice none 0 0,by rw[HX.o];rfl,by rw[HX.o];exact YH.nil _⟩,YI _ _⟩
 rw[Z3 h1]at HX;have l512:decide (512<(b.length:Int))=false:=Wz Zo
 have DZ:Hid (YE 8 b=comb [] (YE (8-0) b)):=by
  show _=_;unfold comb;by_cases h:(YE 8 b).2≠0
  ·rw[ZU h];exact Iu h
  ·rw[Z3 h];have h:(YE 8 b).2=0:=by omega
   show YE 8 b=([]++(YE 8 b).1,0);rw[Hz,←h]
 go_enter func70,ntmps70;go_wp2_with fail
 go_loopw [0,4,5] (fun s0 s4 s5 w'=>∃(j:Nat) (r:List UInt8) (ra:Option Addr) (rc:Nat) (L:List RF),j≤8∧L.length=j∧r.length≤512∧s0 = .slice ra r.length rc∧mJ s4=j∧s5 = .bool (decide (j=0))∧Below w w w'∧w'.ownsRow w 173 10 s4 j (L.flatMap YU)∧(∀x∈L,Ue w' x)∧Hid (∀w'',Below w w w''→X5 w'' (.slice ra r.length rc) r)∧Hid ((j=0∨0<r.length)→YE 8 b=comb (L.map (·.i)) (YE (8-j) r))∧Hid (¬(j=0∨0<r.length)→YE 8 b=(L.map (·.i),0))) (fun s0 s4 s5 _=>9-mJ s4)
 case atStart=>exact⟨0,b,va,c,[],TH _,rfl,Zo,rfl,rfl,rfl,YI _ _,TV _ _ _ _,fun _ h=>by(exact absurd h Zi),HV.o,fun _=>DZ.o,fun h=>absurd (WO rfl) h⟩
 case round=>
  clear DZ HV;obtain⟨j,r,ra,rc,L,hj,hLj,hr,rfl,-,rfl,Xz,YG,Pt,HR,HG,HE⟩:=hrel;obtain⟨oa,oc,rfl,-,-⟩:=Row.Z4 YG;have Sv:=Zh Xz;have Yk:=Zh YG;have EZ:=Zh Pt;have Uk:=Xz.size;have HLJ:=Zh hLj;clear Xz YG Pt hLj;by_cases lH:j=0∨0<r.length
  rotate_left
  ·have BZ:Hid (X=(L.map (·.i),0)):=by show _=_;rw[HX.o,HE.o lH]
   have hj0:decide (j=0)=false:=Wz Zo;have hr0:r.length=0:=by omega
   have hrD:decide (0<(r.length:Int))=false:=Wz Zo;rw[hj0];clear HG HE HX lH;go_wp2_with fail
   go_ret2
   exact⟨⟨_,by rw[BZ.o];rfl,by rw[BZ.o];exact⟨L,rfl,by rw[HLJ.o];exact Row.Z4 Yk.o,EZ.o⟩⟩,Sv.o⟩
  have HGO:=HG.o lH;have Ot:=Zh HGO;clear HG HGO HE;by_cases h8:j=8
  ·subst h8;have hrD:decide (0<(r.length:Int))=true:=Ww Zo;have hrD2:decide (0<r.length)=true:=Ww Zo;have BZ:Hid (X=([],3)):=by show _=_;rw[HX.o,Ot.o];rfl
   have hj0:decide (8=0)=false:=by decide
   rw[hj0];clear HX Ot lH;go_wp2_with fail
   go_ret2
   exact⟨⟨.slice none 0 0,by rw[BZ.o];rfl,by rw[BZ.o];exact YH.nil _⟩,Sv.o⟩
  have e8:((j:Int)==8)=false:=by rw[WM];omega
  obtain⟨q,hq⟩:∃q,8-j=q+1:=⟨7-j,Zo⟩;rw[hq]at Ot;have CI:=Zh (Bw _ r wr (HR.o _ Sv.o) hr)
  have dM:r.length≤rc:=by
   have h:=HR.o _ Sv.o;obtain⟨a1,c1,h1,h2,_⟩:=h;injection h1 with _ _ h1
   omega
  have eF:=Zh (FL (b:=r));have HE:=Zh (xW (L.map (·.i)) q (r:=r));have E0:=Zh (Cf (L.map (·.i)) q (r:=r));have HM:=Zh (Cg (L.map (·.i)) q (r:=r));generalize Y5 r=Y at *
  obtain⟨⟨i,n⟩,er⟩:=Y;dsimp only at CI eF HE E0 HM
  have hs5:decide (j=0)=true∨(decide (j=0)=false∧decide (0<(r.length:Int))=true∧decide (0<r.length)=true):=by
   by_cases h:j=0
   ·exact WO (Ww h)
   ·exact WB ⟨Wz h,Ww Zo,Ww Zo⟩
  rcases hs5 with hj0|⟨hj0,hrD,hrD2⟩
  ·exact Yx4
  ·exact Yx4
open Go.Proofs
theorem V4(w:World)(c d:Array Value)(t s:TypeId):((w.alloc (.cells c t)).alloc (.cells d s)).heap[w.heap.size]?=some (.cells c t (0,0))∧((w.alloc (.cells c t)).alloc (.cells d s)).heap[w.heap.size+1]?=some (.cells d s (0,0))∧((w.alloc (.cells c t)).alloc (.cells d s)).heap.size=w.heap.size+2:=by
 have e1:(w.alloc (.cells c t)).heap.size=w.heap.size+1:=by show(w.heap.push _).size=_;rw[Ou]
 refine⟨?_,?_,by show((w.alloc (.cells c t)).heap.push _).size=_;rw[Ou,e1]⟩
 ·rw[(Z' (w.alloc (.cells c t)) _).block _ (by rw[e1];omega)];exact Z9 w _
 ·have h:=Z9 (w.alloc (.cells c t)) (.cells d s);rw[e1]at h;exact h
def Sj(k:Int)(p:J4)(d:EK)(cv ev pv iv:Value):List Value:= .int .i64 k :: (VJ p d cv ev pv++[iv])
def xK(w:World)(v:Value):Ev→Prop
 | .none=>v = .agg (Sj 0 WR Tn (.slice none 0 0) (.slice none 0 0) (.slice none 0 0) (.slice none 0 0)).toArray
 | .XT p d=>∃cv ev pv,v = .agg (Sj 1 p d cv ev pv (.slice none 0 0)).toArray∧Vy w p cv ev pv
 | .Yb l=>∃iv,v = .agg (Sj 2 WR Tn (.slice none 0 0) (.slice none 0 0) (.slice none 0 0) iv).toArray∧YH w iv l
theorem zw{b:List UInt8}(h1:¬512<b.length)(h2:¬b.length<2)(h3:¬(192≤at8 b 1∧at8 b 1≤223)):XY b=if(TB b).2≠0 then(.none,(TB b).2)else(.XT (TB b).1.1 (TB b).1.2,0):=by
 unfold XY TB;rw[Z3 h1,Z3 h2,Z3 h3];by_cases q1:(YM b).2≠0
 ·rw[ZU q1,ZU q1,ZU q1]
 ·rw[Z3 q1,Z3 q1];by_cases q2:(Yz (YM b).1.ZE).2≠0
  ·rw[ZU q2,ZU q2,ZU q2]
  ·rw[Z3 q2,Z3 q2,Z3 (fun h=>h rfl)]
theorem YH.setRow{w:World}{v:Value}{l:List Ru}(h:YH w v l){g:Nat}{c:Array Value}{f:Nat×Nat}(hg:w.heap[g]?=some (.cells c 84 f))(cs:Array Value):YH (w.setRow g cs) v l:=by
 obtain⟨L,h1,h2,h3⟩:=h;exact⟨L,h1,Row.setRow h2 hg Zd _,fun x hx=>⟨Row.setRow (h3 x hx).b hg Zd _,Row.setRow (h3 x hx).g hg Zd _,Row.setRow (h3 x hx).p hg Zd _⟩⟩
theorem Dz(v:Value)(b:List UInt8)(w:World)(hv:X5 w v b) :
  Calls prog 41 #[v] w fun e w'=>(∃a,e = .returned (.tuple #[a,.int .i64 (XY b).2])∧xK w' a (XY b).1)∧Below w w w':=by
 have HV:Hid (∀w',Below w w w'→X5 w' v b):=fun w' h=>hv.below h
 have HB:Hid (Below w w (w.alloc (.cells (Ql 0 false 0 0 0 0 none 0 0 false 0 none 0 0 none 0 0 0 0 false false 0 none 0 0) 84))):=Z' w _;have y0:=Z9 w (.cells (Ql 0 false 0 0 0 0 none 0 0 false 0 none 0 0 none 0 0 0 0 false false 0 none 0 0) 84);have hlen:=hv.len;by_cases h1:512<b.length
 ·have HX:Hid (XY b=(.none,5)):=by show _=_;unfold XY;rw[ZU h1]
  obtain⟨a,c,rfl,-⟩:=id hv;clear hv HV;generalize XY b=X at *
  have l1:decide ((512:Int)<(b.length:Int))=true:=Ww Zo;go_enter func41,ntmps41;go_wp2_with (first|(with_reducible refine Zs y0 ?_))
  refine VD (v:= .tuple (Qo (Ql 0 false 0 0 0 0 none 0 0 false 0 none 0 0 none 0 0 0 0 false false 0 none 0 0) 5)) ?_ rfl ?_
  ·exact Yt9
  exact⟨⟨_,by rw[HX.o],by rw[HX.o];rfl⟩,Z0 HB.o (Zw _) _⟩
 have l1:decide ((512:Int)<(b.length:Int))=false:=Wz Zo;by_cases h2:b.length<2
 ·have HX:Hid (XY b=(.none,2)):=by show _=_;unfold XY;rw[Z3 h1,ZU h2]
  obtain⟨a,c,rfl,-⟩:=id hv;clear hv HV;generalize XY b=X at *
  have l2:decide ((b.length:Int)<2)=true:=Ww Zo;go_enter func41,ntmps41;go_wp2_with (first|(with_reducible refine Zs y0 ?_))
  refine VD (v:= .tuple (Qo (Ql 0 false 0 0 0 0 none 0 0 false 0 none 0 0 none 0 0 0 0 false false 0 none 0 0) 2)) ?_ rfl ?_
  ·exact Yt9
  exact⟨⟨_,by rw[HX.o],by rw[HX.o];rfl⟩,Z0 HB.o (Zw _) _⟩
 have l2:decide ((b.length:Int)<2)=false:=Wz Zo;obtain⟨g,off,c,rfl,RV,yD,WX⟩:=RI (HV.o _ HB.o) Zo;have d1:=WX 1 Zo;clear WX hv RV yD;have hbI:(1:Int)<(b.length:Int):=by omega
 by_cases h3:192≤at8 b 1∧at8 b 1≤223
 ·have HX:Hid (XY b=if(Yq b).2≠0 then(.none,(Yq b).2)else(.Yb (Yq b).1,0)):=by
   show _=_
   conv=>lhs;unfold XY
   rw[Z3 h1,Z3 h2,ZU h3]
  have HC:=Zh (Ew _ b _ (HV.o _ HB.o));clear HV;generalize XY b=X at *
  generalize Yq b=Y at *
  obtain⟨L,er⟩:=Y;dsimp only at HC HX;obtain⟨qd,Bb⟩:=h3;generalize at8 b 1=kd at *
  have q1:decide ((192:Int)≤(kd:Int))=true:=Ww Zo;have q2:decide ((kd:Int)≤223)=true:=Ww Zo;go_enter func41,ntmps41;go_upto_region 7 with(go_at_call 70;refine HC.o.mono ?_;rintro e w2 ⟨⟨iv,rfl,hit⟩,Zb⟩;obtain⟨ia,ic,Cx⟩:=YH.form hit;subst Cx;have Hb:=Zh hit;have Yg:=Zh Zb;clear hit Zb)
  clear HC;replace y0:=(Yg.o.block _ (ZX y0)).trans y0;have WU:Hid (Below w w w2):=Tr HB Yg.o;by_cases RM:er=0
  ·subst RM;rw[Z3 Zi]at HX;go_wp2_with (first|(with_reducible refine Zs y0 ?_))
   refine VD (v:= .tuple (Qo (Ql 2 false 0 0 0 0 none 0 0 false 0 none 0 0 none 0 0 0 0 false false 0 ia L.length ic) 0)) ?_ rfl ?_
   ·exact UK (p:=2) (u:=3) Zr _ _ w 84 (Ql 2 false 0 0 0 0 none 0 0 false 0 none 0 0 none 0 0 0 0 false false 0 ia L.length ic) (0,0) _ Zr (setRow_heap _ _ _ _ _ _ y0) underlying84 rfl Zk
   exact⟨⟨_,by rw[HX.o],by rw[HX.o];exact⟨_,rfl,Hb.o.setRow y0 _⟩⟩,Z0 WU.o (Zw _) _⟩
  ·have bl:(er !=0)=true:=by rw[RH];exact RM
   rw[ZU RM]at HX;go_wp2_with (first|(with_reducible refine Zs y0 ?_))
   refine VD (v:= .tuple (Qo (Ql 0 false 0 0 0 0 none 0 0 false 0 none 0 0 none 0 0 0 0 false false 0 none 0 0) er)) ?_ rfl ?_
   ·exact Yt9
   exact⟨⟨_,by rw[HX.o],by rw[HX.o];rfl⟩,Z0 WU.o (Zw _) _⟩
 have HX:Hid (XY b=if(TB b).2≠0 then(.none,(TB b).2)else(.XT (TB b).1.1 (TB b).1.2,0)):=zw h1 h2 h3;have HC:=Zh (vg _ b _ (HV.o _ HB.o));clear HV;generalize XY b=X at *
 generalize TB b=Y at *
 obtain⟨⟨P,d⟩,er⟩:=Y;dsimp only at HC HX;have hk:at8 b 1<192∨223<at8 b 1:=by omega
 clear h3;generalize at8 b 1=kd at *
 go_enter func41,ntmps41;rcases hk with hk|hk
 case' inl=>have q1:decide ((192:Int)≤(kd:Int))=false:=Wz Zo
 case' inr=>have q1:decide ((192:Int)≤(kd:Int))=true:=Ww Zo
 case' inr=>have q2:decide ((kd:Int)≤223)=false:=Wz Zo
 all_goals
  go_upto_region 11 with(first|(go_at_call 71;refine HC.o.mono ?_;rintro e w2 ⟨⟨a0,rfl,⟨cv,ev,pv,cX,q1,q2,q3⟩⟩,Zb⟩;obtain⟨ca,cc,Hi,-⟩:=id q1;obtain⟨ea,ec,Kt,-⟩:=id q2;obtain⟨pa,pc,My,-⟩:=id q3;subst Hi;subst Kt;subst My;dsimp only[Gb]at cX;subst cX;dsimp only[kO];have HR:Hid (Vy w2 P (.slice ca P.VF.length cc) (.slice ea P.ext.length ec) (.slice pa P.ZE.length pc)):=⟨q1,q2,q3⟩;have Yg:=Zh Zb;clear q1 q2 q3 Zb;obtain⟨n0,n1,n2⟩:=V4 w2 (Qc false 0 0 0 0 none 0 0 false 0 none 0 0 none 0 0 0) (Qd 0 false false 0) 79 81)|(with_reducible refine Zs n0 ?_)|(with_reducible refine Zs ((setRow_other _ _ _ _ Zo).trans n1) ?_))
  clear HC;have qp:w.heap.size<w2.heap.size:=OB (ZX y0) Yg.o.size;have WU:Hid (Below w w w2):=Tr HB Yg.o;have Va:Hid (Below w2 w2 ((((w2.alloc (.cells (Qc false 0 0 0 0 none 0 0 false 0 none 0 0 none 0 0 0) 79)).alloc (.cells (Qd 0 false false 0) 81)).setRow w2 (Jx P ca cc ea ec pa pc)).setRow (w2.heap.size+1) (Jt d))):=Z0 (Z0 (ZF (Z' w2 _) (Zw _) _) (Zw _) _) (J_ _) _;replace y0:=(Va.o.block _ qp).trans ((Yg.o.block _ (ZX y0)).trans y0);have P5:Hid (Below w w ((((w2.alloc (.cells (Qc false 0 0 0 0 none 0 0 false 0 none 0 0 none 0 0 0) 79)).alloc (.cells (Qd 0 false false 0) 81)).setRow w2 (Jx P ca cc ea ec pa pc)).setRow (w2.heap.size+1) (Jt d))):=Tr WU Va.o;have y5:((((w2.alloc (.cells (Qc false 0 0 0 0 none 0 0 false 0 none 0 0 none 0 0 0) 79)).alloc (.cells (Qd 0 false false 0) 81)).setRow w2 (Jx P ca cc ea ec pa pc)).setRow (w2.heap.size+1) (Jt d)).heap[w2.heap.size]?=some (.cells (Jx P ca cc ea ec pa pc) 79 (0,0)):=(setRow_other _ _ _ _ Zo).trans (setRow_heap _ _ _ _ _ _ n0)
  have y6:((((w2.alloc (.cells (Qc false 0 0 0 0 none 0 0 false 0 none 0 0 none 0 0 0) 79)).alloc (.cells (Qd 0 false false 0) 81)).setRow w2 (Jx P ca cc ea ec pa pc)).setRow (w2.heap.size+1) (Jt d)).heap[w2.heap.size+1]?=some (.cells (Jt d) 81 (0,0)):=setRow_heap _ _ _ _ _ _ ((setRow_other _ _ _ _ Zo).trans n1);have Mn:=Zh (HR.o.below Va.o);by_cases RM:er=0
  ·subst RM;rw[Z3 Zi]at HX;have HRZ:=Vy.setRow Mn.o y0 Zd Zd (Jw 1 P ca cc ea ec pa pc d none 0 0);go_wp2_with (first|(with_reducible refine Zl y5 underlying79 ?_)|(with_reducible refine Zl y6 underlying81 ?_)|(with_reducible refine Zs y0 ?_))
   refine VD (v:= .tuple (Qo (Jw 1 P ca cc ea ec pa pc d none 0 0) 0)) ?_ rfl ?_
   ·exact UK (p:=2) (u:=3) Zr _ _ w 84 (Jw 1 P ca cc ea ec pa pc d none 0 0) (0,0) _ Zr (setRow_heap _ _ _ _ _ _ y0) underlying84 rfl Zk
   exact⟨⟨_,by rw[HX.o],by rw[HX.o];exact⟨_,_,_,rfl,HRZ⟩⟩,Z0 P5.o (Zw _) _⟩
  ·have bl:(er !=0)=true:=by rw[RH];exact RM
   rw[ZU RM]at HX;go_wp2_with (first|(with_reducible refine Zs y0 ?_))
   refine VD (v:= .tuple (Qo (Ql 0 false 0 0 0 0 none 0 0 false 0 none 0 0 none 0 0 0 0 false false 0 none 0 0) er)) ?_ rfl ?_
   ·exact UK (p:=2) (u:=3) Zr _ _ w 84 (Ql 0 false 0 0 0 0 none 0 0 false 0 none 0 0 none 0 0 0 0 false false 0 none 0 0) (0,0) _ Zr (setRow_heap _ _ _ _ _ _ y0) underlying84 rfl Zk
   exact⟨⟨_,by rw[HX.o],by rw[HX.o];rfl⟩,Z0 P5.o (Zw _) _⟩
end Go.Proofs.By
namespace Go.Proofs.By
open Go.RowKit Go.Proofs.Heap Go.Proofs
open Go.Proofs.Rm (ZM ZO)
structure Ag where
 e:Ev
 cv:Value
 ev:Value
 pv:Value
 iv:Value
def Xh(x:Ag):List Value:=Sj x.e.kd x.e.pk x.e.ds x.cv x.ev x.pv x.iv
structure G9(w:World)(x:Ag):Prop where
 p:Vy w x.e.pk x.cv x.ev x.pv
 i:YH w x.iv x.e.il
theorem xK.form{w:World}{v:Value}{e:Ev}(h:xK w v e):∃cv ev pv iv,v = .agg (Xh ⟨e,cv,ev,pv,iv⟩).toArray∧G9 w ⟨e,cv,ev,pv,iv⟩:=by
 cases e with
 | none=>exact⟨_,_,_,_,h,Vy.nil w,YH.nil w⟩
 | XT p d=>obtain⟨cv,ev,pv,h1,h2⟩:=h;exact⟨_,_,_,_,h1,h2,YH.nil w⟩
 | Yb l=>obtain⟨iv,h1,h2⟩:=h;exact⟨_,_,_,_,h1,Vy.nil w,h2⟩
theorem kP:Elem prog 38 84 17 168:=⟨underlying38,⟨.agg (Ql 0 false 0 0 0 0 none 0 0 false 0 none 0 0 none 0 0 0 0 false false 0 none 0 0),by kernel_rfl,rfl⟩,by decide⟩
def MF:List TypeId:=[44,35,84,59,66,5,173,228,226]
def Off(ts:List TypeId)(w:World)(S:Nat→Prop):Prop:=∀e∈ts,∀j c fr,S j→w.heap[j]?≠some (.cells c e fr)
theorem Ro{ts:List TypeId}{w:World}{B:Nat}{e:TypeId}{s:Nat}{v:Value}{n:Nat}{xs:List Value}(h:w.ownsRow B e s v n xs)(WN:e ∉ ts):Off ts w (fun j=>v.ownBlock=some j):=fun e2 he=>Y7 h (fun h=>WN (h▸he))
theorem UZ{ts:List TypeId}{w:World}{k:Nat}{cs:Array Value}{e:TypeId}{f:Nat×Nat}(h:w.heap[k]?=some (.cells cs e f))(WN:e ∉ ts):Off ts w (· = k):=by
 intro e2 he j c fr hj hc;rw[hj,h]at hc;injection hc with hc
 injection hc with _ hc
 exact WN (hc▸he)
theorem mQ{ts:List TypeId}{w:World}{S T:Nat→Prop}(h1:Off ts w S)(h2:Off ts w T):Off ts w (fun j=>S j∨T j):=fun e he j c fr hj=>hj.elim (fun h=>h1 e he j c fr h) (fun h=>h2 e he j c fr h)
theorem G9.below{w w':World}{x:Ag}(h:G9 w x)(hb:Below w w w'):G9 w' x:=⟨h.p.below hb,h.i.below hb⟩
theorem G9.frO{w w':World}{x:Ag}{S:Nat→Prop}(h:G9 w x)(hf:Fr w S w w')(hS:Off [66,5,173,228,226] w S):G9 w' x:=by
 refine⟨h.p.wJ hf (hS _ Zi) (hS _ Zi),?_⟩;obtain⟨L,h1,h2,h3⟩:=h.i;exact⟨L,h1,Row.fr h2 hf (Zw _) (hS _ Zi),fun y hy=>(h3 y hy).wJ hf (hS _ Zi) (hS _ Zi) (hS _ Zi)⟩
theorem Ul{w w':World}{b:Nat}{T:ZO}{S:Nat→Prop}(h:ZM w b T)(hf:Fr w S w w')(hS:Off [91,103,108,105,66] w S):ZM w' b T:=by
 have hl:=h.lt;obtain⟨pv,sv,uv,hc,ht⟩:=h.Vv;exact⟨pv,sv,uv,by rw[hf.block b hl (fun hs=>hS _ Zi _ _ _ hs hc)];exact hc,ht.fr hf (Zw _) (hS _ Zi) (hS _ Zi) (hS _ Zi) (hS _ Zi)⟩
theorem Uv{w w':World}{B:Nat}{e:TypeId}{s:Nat}{v:Value}{n:Nat}{xs:List Value}{S:Nat→Prop}{ts:List TypeId}(h:w.ownsRow B e s v n xs)(hf:Fr w S w w')(hS:Off ts w S)(he:e∈ts):w'.ownsRow B e s v n xs:=
 XL h fun j hj=>by
  obtain⟨cur,hc⟩:=Wi h j hj;exact hf.block j (ZX hc) (fun hs=>hS _ he _ _ _ hs hc)
structure WI(B:Nat)(w:World)(k:Nat)(cs:Array Value)(av:Value)(A:List EJ)(ev:Value)(E:List Ag)(lv:Value)(LS:List Zx):Prop where
 Y8:w.heap[k]?=some (.cells cs 44 (0,0))
 XX:w.ownsRow B 35 4 av A.length (A.flatMap VE)
 A0:w.ownsRow B 84 17 ev E.length (E.flatMap Xh)
 each:∀x∈E,G9 w x
 QM:w.ownsRow B 59 4 lv LS.length (LS.flatMap Z8)
section
variable {B:Nat} {w w':World} {k:Nat} {cs:Array Value} {av:Value} {A:List EJ} {ev:Value} {E:List Ag} {lv:Value} {LS:List Zx}
theorem WI.below(h:WI B w k cs av A ev E lv LS)(hb:Below w w w'):WI B w' k cs av A ev E lv LS:=
 ⟨(hb.block _ (ZX h.Y8)).trans h.Y8,Yv h.XX hb,Yv h.A0 hb,fun x hx=>(h.each x hx).below hb,Yv h.QM hb⟩
theorem WI.frS(h:WI B w k cs av A ev E lv LS){S:Nat→Prop}(hf:Fr w S w w')(hS:Off (MF.drop 1) w S){cs':Array Value}(hk:w'.heap[k]?=some (.cells cs' 44 (0,0))):WI B w' k cs' av A ev E lv LS:=
 ⟨hk,Uv h.XX hf hS Zd,Uv h.A0 hf hS Zd,fun x hx=>(h.each x hx).frO hf (fun e he=>hS e (by revert e;decide)),Uv h.QM hf hS Zd⟩
theorem WI.Gk(h:WI B w k cs av A ev E lv LS)(o:Nat)(u:Value):WI B (w.setCell ⟨k,o,none⟩ u) k (cs.setIfInBounds o u) av A ev E lv LS:=
 h.frS (S:=(· = k)) ((Fr.refl _ _ _).setAt _ _) (UZ h.Y8 Zd) (VH h.Y8 o u)
theorem WI.ym(h:WI B w k cs av A ev E lv LS)(hg:w.grownBy w' lv.ownBlock){Bl:Value}{tP:List Zx}(ho:w'.ownsRow B 59 4 Bl tP.length (tP.flatMap Z8)):WI B w' k cs av A ev E Bl tP:=by
 have o:=Ro (ts:=MF.erase 59) h.QM Zd;exact⟨(hg.block _ (ZX h.Y8) (fun e=>o _ Zd _ _ _ e.symm h.Y8)).trans h.Y8,Uv h.XX (XS hg) o Zd,Uv h.A0 (XS hg) o Zd,fun x hx=>(h.each x hx).frO (XS hg) (fun e he=>o e (by revert e;decide)),ho⟩
theorem WI.Co(h:WI B w k cs av A ev E lv LS)(hg:w.grownBy w' av.ownBlock){av':Value}{A':List EJ}(ho:w'.ownsRow B 35 4 av' A'.length (A'.flatMap VE)):WI B w' k cs av' A' ev E lv LS:=by
 have o:=Ro (ts:=MF.erase 35) h.XX Zd;exact⟨(hg.block _ (ZX h.Y8) (fun e=>o _ Zd _ _ _ e.symm h.Y8)).trans h.Y8,ho,Uv h.A0 (XS hg) o Zd,fun x hx=>(h.each x hx).frO (XS hg) (fun e he=>o e (by revert e;decide)),Uv h.QM (XS hg) o Zd⟩
theorem WI.kV(h:WI B w k cs av A ev E lv LS)(hg:w.grownBy w' ev.ownBlock){ev':Value}{x:Ag}(hx:G9 w x)(ho:w'.ownsRow B 84 17 ev' (E++[x]).length ((E++[x]).flatMap Xh)):WI B w' k cs av A ev' (E++[x]) lv LS:=by
 have o:=Ro (ts:=MF.erase 84) h.A0 Zd
 exact⟨(hg.block _ (ZX h.Y8) (fun e=>o _ Zd _ _ _ e.symm h.Y8)).trans h.Y8,Uv h.XX (XS hg) o Zd,ho,fun y hy=>by
  rcases EN.1 hy with hy|hy
  ·exact(h.each y hy).frO (XS hg) (fun e he=>o e (by revert e;decide))
  ·rw[J7.1 hy];exact hx.frO (XS hg) (fun e he=>o e (by revert e;decide)),Uv h.QM (XS hg) o Zd⟩
theorem WI.aY(h:WI B w k cs av A ev E lv LS){S:Nat→Prop}(hf:Fr w S w w')(hS:Off (MF.erase 59) w S){tP:List Zx}(ho:w'.ownsRow B 59 4 lv tP.length (tP.flatMap Z8)):WI B w' k cs av A ev E lv tP:=
 ⟨(hf.block _ (ZX h.Y8) (fun hs=>hS _ Zd _ _ _ hs h.Y8)).trans h.Y8,Uv h.XX hf hS Zd,Uv h.A0 hf hS Zd,fun x hx=>(h.each x hx).frO hf (fun e he=>hS e (by revert e;decide)),ho⟩
end
end Go.Proofs.By
