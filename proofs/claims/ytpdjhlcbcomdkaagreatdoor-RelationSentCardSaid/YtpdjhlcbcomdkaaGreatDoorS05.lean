import Derived.Test.YtpdjhlcbcomdkaaGreatDoorS04
set_option linter.all false
set_option maxRecDepth 100000
set_option maxHeartbeats 16000000
open Go Go.Q Go.Qr Go.Proofs.Tryz Go.RowKit
namespace Go.Proofs.By
structure Zt where
 peer:Int
 source:Int
 Mx:Int
 fin:Int
deriving DecidableEq
def We:Zt:=⟨0,0,0,0⟩
def X7(p s at':Int)(ls:List Zt):Nat→List Zt
 | 0=>ls
 | k+1=>if(ls.getD k We).peer=p∧(ls.getD k We).source=s then ls.set k {ls.getD k We with fin:=at'}else X7 p s at' ls k
def Ym(n at':Int)(ls:List Zt)(t:Yz):List Zt:=
 if t.kind=1 then ls++[⟨t.peer,t.source,at',n⟩]
 else if t.kind=2 then X7 t.peer t.source at' ls ls.length
 else ls
def BZ(p s at':Int)(ls:List Zt):∀k,(X7 p s at' ls k).length=ls.length
 | 0=>rfl
 | k+1=>by
  unfold X7;split
  ·rw[List.length_set]
  ·exact BZ p s at' ls k
def A2(n at':Int)(ls:List Zt)(t:Yz):(Ym n at' ls t).length≤ls.length+1:=by
 unfold Ym;split
 ·rw[UC];exact Zq _
 split
 ·rw[BZ];omega
 ·omega
def W8(n at':Int)(ls:List Zt)(ts:List Yz):List Zt:=ts.foldl (Ym n at') ls
def A3(n at':Int)(ls:List Zt)(ts:List Yz)(t:Yz):W8 n at' ls (ts++[t])=Ym n at' (W8 n at' ls ts) t:=by
 unfold W8;rw[List.foldl_append];rfl
def MN(n at':Int):∀(ts:List Yz) (ls:List Zt),(W8 n at' ls ts).length≤ls.length+ts.length
 | [],ls=>Zq _
 | t :: ts,ls=>by
  have h1:=MN n at' ts (Ym n at' ls t);have h2:=A2 n at' ls t;show(W8 n at' (Ym n at' ls t) ts).length≤_;rw[List.length_cons];omega
def Zg(L:List WR)(n:Int):Nat→List Zt
 | 0=>[]
 | k+1=>W8 n k (Zg L n k) (Z6 L k).turns
def XV(L:List WR)(k:Nat):List Et:=(List.range k).map fun j=>(Z6 L j).XR
def Hn(L:List WR)(k:Nat):XV L (k+1)=XV L k++[(Z6 L k).XR]:=by unfold XV;rw[ny,Ng];rfl
def XF(L:List WR)(k:Nat):(XV L k).length=k:=by unfold XV;rw[Te,List.length_range]
def zF(R:Room)(p n:Nat):(waits R p n).length≤1:=by unfold waits;split <;> simp
def r7(R:Room)(n:Nat)(on:Bool):(mute R n on).1.length≤18:=by
 have h1:=RM (R.YW n {R.src n with ZJ:=on}) n on (ZX (R.YW n {R.src n with ZJ:=on}) n);have h2:=OW (R.YW n {R.src n with ZJ:=on}) n;show((ZX (R.YW n {R.src n with ZJ:=on}) n).flatMap _).length≤18;omega
def mK(R:Room)(o:Op)(sv:Value):(turns R o sv).1.length≤200:=by
 unfold turns;dsimp only;by_cases k2:o.kind=2
 ·rw[ZU k2];exact Tv _
 rw[Z3 k2];by_cases k3:o.kind=3
 ·rw[ZU k3];unfold leave;dsimp only;rw[UC];have h1:=P5 o.peer.toNat R 9;have h2:=NL o.peer.toNat (ZH o.peer.toNat R 9).2 9;omega
 rw[Z3 k3];by_cases k4:o.kind=4
 ·rw[ZU k4];exact Tv _
 rw[Z3 k4];by_cases k5:o.kind=5
 ·rw[ZU k5];have:=Oq R o.source.toNat;omega
 rw[Z3 k5];by_cases k6:o.kind=6
 ·rw[ZU k6];unfold begin;dsimp only;rw[List.length_cons];have:(if(R.src o.source.toNat).ZJ=true then[(⟨6,o.peer,o.source,0,0⟩:Yz)]else[asks (R.ZO o.source.toNat o.peer.toNat ⟨true,false,o.ZC⟩) o.peer.toNat o.source.toNat]).length=1:=by split <;> rfl
  omega
 rw[Z3 k6];by_cases k7:o.kind=7
 ·rw[ZU k7];show 1≤200;decide
 rw[Z3 k7];by_cases k8:o.kind=8
 ·rw[ZU k8];have:=r7 R o.source.toNat true;omega
 rw[Z3 k8];by_cases k9:o.kind=9
 ·rw[ZU k9];have:=r7 R o.source.toNat false;omega
 rw[Z3 k9];by_cases k10:o.kind=10
 ·rw[ZU k10];show 1≤200;decide
 rw[Z3 k10];by_cases k11:o.kind=11
 ·rw[ZU k11];dsimp only;rw[List.length_cons];exact PJ (Nat.succ_le_succ (zF _ _ _)) Zd
 rw[Z3 k11];by_cases k12:o.kind=12
 ·rw[ZU k12];dsimp only;rw[List.length_cons];exact PJ (Nat.succ_le_succ (zF _ _ _)) Zd
 rw[Z3 k12];exact Tv _
def Hs(peer:Int):∀(l:List Int) (R:Room),(Y6 peer l R).1.1.length≤18*l.length
 | [],R=>Zq _
 | x :: l,R=>by
  have ih:=Hs peer l (YM R peer x).1.2;have h1:=Lp R peer x;unfold Y6;show((YM R peer x).1.1++_).length≤_;rw[UC,List.length_cons];omega
def ui(R:Room)(peer:Int){i:Rc}(hi:S3 i):(X_ R peer i).1.1.length≤3000:=by
 unfold X_;split
 ·exact Tv _
 split
 ·exact Tv _
 split
 ·have:=Hs peer i.gone R;have hg:=hi.g;omega
 ·exact Tv _
def Ic(peer:Int):∀(l:List Rc) (R:Room),(∀i∈l,S3 i)→(Zw peer l R).1.1.length≤3000*l.length
 | [],R,hi=>Zq _
 | x :: l,R,hi=>by
  have h1:=ui R peer (hi x (List.mem_cons_self ..));have ih:=Ic peer l (X_ R peer x).1.2 (fun i h=>hi i (List.mem_cons_of_mem _ h));unfold Zw;show((X_ R peer x).1.1++_).length≤_;rw[UC,List.length_cons];omega
def Au(R:Room)(ep p:Int)(l:List UInt8):(YD R ep p l).1.1.turns.length≤24000:=by
 unfold YD;by_cases h1:(XX l).2≠0
 ·rw[ZU h1];exact Tv _
 rw[Z3 h1];by_cases h2:(!Y5 R p)=true
 ·rw[ZU h2];exact Tv _
 rw[Z3 h2];by_cases h3:192≤at8 l 1∧at8 l 1≤223
 ·rw[OT h3 Zo];have hk:=S9 l;have:=Ic p (Yl l).1 R hk.1;show(Zw p (Yl l).1 R).1.1.length≤24000;omega
 ·obtain⟨P,d,hp⟩:=Ga h3 Zo;rw[hp];dsimp only;unfold VK;split <;> exact Tv _
def mH(R:Room)(ep:Int)(o:Op)(l:List UInt8)(sv:Value):(take R ep o l sv).1.1.turns.length≤24000:=by
 unfold take;split
 ·exact Au _ _ _ _
 split
 ·exact Tv _
 ·rename_i h
  show(Wq R o sv).1.1.length≤24000;unfold Wq;split
  ·exact Tv _
  ·have:=mK R o sv;exact PJ this Zd
def MX(L:List WR)(k:Nat):(Z6 L k).turns.length≤24000:=by
 unfold Z6;split
 ·exact Tv _
 ·exact mH _ _ _ _ _
def RJ(L:List WR)(n:Int):∀k,(Zg L n k).length≤24000*k
 | 0=>Zq _
 | k+1=>by
  have ih:=RJ L n k;have h1:=MN n k (Z6 L k).turns (Zg L n k);have h2:=MX L k;show(W8 n k (Zg L n k) (Z6 L k).turns).length≤_;omega
def NR(L:List WR)(k:Nat):List (JR×Eu):=(List.range k).map fun j=>((Z6 L j).XM,(Z6 L j).WI)
def yC(L:List WR)(k:Nat):NR L (k+1)=NR L k++[((Z6 L k).XM,(Z6 L k).WI)]:=by unfold NR;rw[ny,Ng];rfl
def FN(L:List WR)(k:Nat):(NR L k).length=k:=by unfold NR;rw[Te,List.length_range]
def noOp:Op:=⟨0,0,0,0,[],[]⟩
def opAt(L:List WR)(k:Nat):Op:=match L[k]? with
 | none=>noOp
 | some y=>y.x.o
def FQ(L:List WR)(k:Nat):Int:=if(Z6 L k).XR.kind≠2∨(opAt L k).kind=1 then 0 else(opAt L k).kind
structure VS where
 want:Int
 cur:Int
 ZV:Bool
 ZJ:Bool
deriving DecidableEq
def VS.quiet(s:VS):Bool:=s.ZV||s.ZJ
def Wk(x:Zt)(at':Int):Bool:=decide (x.Mx<at')&&decide (at'<x.fin)
def P9(s:VS)(k q:Int):VS:=if k=12 then{s with want:=q}else if k=10 then{s with ZV:=true,cur:= -1}else if k=11 then{s with ZV:=false}else s
def YU(L:List WR)(x:Zt)(k:Nat):Bool:=Wk x k&&decide ((Z6 L k).XR.kind=1)&&decide ((Z6 L k).XR.source=x.source)
def Wx(s:VS)(d:Eu):Bool:= !s.quiet&&d.key&&d.start&&decide (d.ZC=s.want) && !decide (d.ZC=s.cur)
def YS(s:VS)(k:Int):VS:=if k=4∨k=9 then{s with ZJ:=false}else if k=8 then{s with ZJ:=true,cur:= -1}else s
def S4(L:List WR)(x:Zt)(s:VS)(k:Nat):VS:=
 if(opAt L k).source=x.source then
  (if(opAt L k).peer=x.peer∧Wk x k=true then P9 (YS s (FQ L k)) (FQ L k) (opAt L k).ZC else YS s (FQ L k))
 else s
def UA(L:List WR)(x:Zt)(s:VS)(k:Nat):VS:=
 if YU L x k&&Wx s (Z6 L k).WI then{S4 L x s k with cur:=(Z6 L k).WI.ZC}else S4 L x s k
def ZL(L:List WR)(x:Zt):Nat→VS
 | 0=>⟨(opAt L x.Mx.toNat).ZC,-1,false,false⟩
 | k+1=>UA L x (ZL L x k) k
def Wn(L:List WR)(x:Zt)(n:Nat):List VS:=(List.range n).map (ZL L x)
def T_(L:List WR)(x:Zt)(n:Nat):Wn L x (n+1)=Wn L x n++[ZL L x n]:=by unfold Wn;rw[ny,Ng];rfl
def MU(L:List WR)(x:Zt)(n:Nat):(Wn L x n).length=n:=by unfold Wn;rw[Te,List.length_range]
def NZ(L:List WR)(x:Zt){n k:Nat}(h:k<n):(Wn L x n)[k]?=some (ZL L x k):=by unfold Wn;rw[List.getElem?_map,List.getElem?_range h];rfl
def there(x:Zt)(at':Int):Bool:=decide (x.Mx<at')&&decide (at'≤x.fin)
structure ED where
 event:Int
 seq:Int
 time:Int
 Yi:Int
 frame:Int
 sw:Bool
deriving DecidableEq
def Ks:ED:=⟨0,0,0,0,0,false⟩
structure tq where
 o:List ED
 opn:Int
 begin:Int
 WK:Int
def U4(l:List ED):ED:=l.getD (l.length-1) Ks
def Us(a b:Int):Int:=IntKind.i16.wrap (IntKind.u16.wrap (a-b))
def Oo(L:List WR)(s:VS)(out:List ED)(k:Nat):Bool:=
 decide ((Z6 L k).WI.ZC=s.cur) && !decide (out.length=0)&&decide (0<Us (Z6 L k).XM.seq (Z6 L (U4 out).event.toNat).XM.seq)
def oY(L:List WR)(x:Zt)(z:tq)(k:Nat)(op:Bool):ED:=
 ⟨k,IntKind.u16.wrap z.o.length,IntKind.u32.wrap (IntKind.u32.wrap ((Z6 L k).XM.time-(Z6 L z.opn.toNat).XM.time)+z.begin),Xl x.peer x.source,IntKind.u16.wrap (z.WK-1),op⟩
def Tj(z:tq)(k:Nat)(op st:Bool):tq:=
 ⟨z.o,if op then k else z.opn,if op then(if 0<z.o.length then IntKind.u32.wrap ((U4 z.o).time+3000)else z.begin)else z.begin,if st then IntKind.u16.wrap (z.WK+1)else z.WK⟩
def QC(L:List WR)(x:Zt)(s:VS)(z:tq)(k:Nat):tq:=
 let r:=Tj z k (Wx s (Z6 L k).WI) (Z6 L k).WI.start
 {r with o:=r.o++[oY L x r k (Wx s (Z6 L k).WI)]}
def Vx(L:List WR)(x:Zt)(s:VS)(z:tq)(k:Nat):tq:=
 if YU L x k && !s.quiet&&(Wx s (Z6 L k).WI||Oo L s z.o k)then QC L x s z k else z
def Zx(L:List WR)(x:Zt):Nat→tq
 | 0=>⟨[],0,0,0⟩
 | k+1=>Vx L x (ZL L x k) (Zx L x k) k
structure ER(k:Nat)(z:tq):Prop where
 len:z.o.length≤k
 ev:∀e∈z.o,0≤e.event∧e.event<k
 opn:0≤z.opn∧(z.opn<k∨z.opn=0)
 bg:0≤z.begin∧z.begin<4294967296
 st:0≤z.WK∧z.WK<65536
def yQ{z:tq}{k:Nat}(h:ER k z)(op st:Bool):(0≤(Tj z k op st).opn∧(Tj z k op st).opn<((k+1:Nat):Int))∧(0≤(Tj z k op st).begin∧(Tj z k op st).begin<4294967296)∧(0≤(Tj z k op st).WK∧(Tj z k op st).WK<65536):=by
 have h1:=h.opn;have h2:=h.bg;have h3:=h.st;have w1:0≤IntKind.u32.wrap ((U4 z.o).time+3000)∧IntKind.u32.wrap ((U4 z.o).time+3000)<4294967296:=by rw[Nr];omega
 have w2:0≤IntKind.u16.wrap (z.WK+1)∧IntKind.u16.wrap (z.WK+1)<65536:=by rw[IntKind.wrap_u16];omega
 unfold Tj;dsimp only;refine⟨?_,?_,?_⟩
 ·cases op
  ·show 0≤z.opn∧z.opn<_;omega
  ·show 0≤(k:Int)∧(k:Int)<_;omega
 ·cases op
  ·exact h2
  ·by_cases hl:0<z.o.length
   ·rw[ZU rfl,ZU hl];exact w1
   ·rw[ZU rfl,Z3 hl];exact h2
 ·cases st
  ·exact h3
  ·exact w2
def ER.step{L:List WR}{x:Zt}{s:VS}{z:tq}{k:Nat}(h:ER k z):ER (k+1) (Vx L x s z k):=by
 have hw:ER (k+1) z:=⟨by have:=h.len;omega,fun e he=>by have:=h.ev e he;omega,by have:=h.opn;omega,h.bg,h.st⟩;unfold Vx;split
 ·obtain⟨r1,r2,r3⟩:=yQ h (Wx s (Z6 L k).WI) (Z6 L k).WI.start;unfold QC;dsimp only;refine⟨?_,?_,⟨r1.1,WQ r1.2⟩,r2,r3⟩
  ·show(z.o++[_]).length≤k+1;rw[UC];have:=h.len;simp only[List.length_cons,List.length_nil];omega
  ·intro e he;rcases EZ.1 he with h1|h1
   ·exact hw.ev e h1
   ·rw[K4]at h1;subst h1;show 0≤(k:Int)∧(k:Int)<((k+1:Nat):Int);omega
 ·exact hw
def Si(L:List WR)(x:Zt):∀k,ER k (Zx L x k)
 | 0=>⟨Zq _,(fun e h=>by cases h),⟨Int.le_refl _,WG rfl⟩,⟨Int.le_refl _,(by decide:(0:Int)<4294967296)⟩,⟨Int.le_refl _,(by decide:(0:Int)<65536)⟩⟩
 | k+1=>(Si L x k).step
def Zf(L:List WR)(k:Nat)(kd peer source:Int):Bool:=decide ((Z6 L k).XR.kind=2)&&decide ((opAt L k).kind=kd)&&decide ((opAt L k).source=source)&&(decide (peer=0)||decide ((opAt L k).peer=peer))
def Vk(L:List WR)(x:Zt)(k:Nat):Bool:=YU L x k&&Wx (ZL L x k) (Z6 L k).WI
section
variable {L:List WR} {x:Zt}
def lY{k:Nat}{kd:Int}(h1:kd≠1)(h0:kd≠0):FQ L k=kd↔((Z6 L k).XR.kind=2∧(opAt L k).kind=kd):=by
 unfold FQ;split
 ·rename_i h
  constructor
  ·intro h';exact absurd h'.symm h0
  ·rintro⟨a,b⟩;rcases h with h|h
   ·exact absurd a h
   ·exact absurd (b.symm.trans h) h1
 ·rename_i h
  have ha:(Z6 L k).XR.kind=2:=Classical.not_not.1 (fun hh=>h (WQ hh));exact⟨fun h'=>⟨ha,h'⟩,fun h'=>h'.2⟩
def J3{k:Nat}{kd s:Int}(h1:kd≠1)(h0:kd≠0):Zf L k kd 0 s=true↔(FQ L k=kd∧(opAt L k).source=s):=by
 rw[lY h1 h0];unfold Zf;simp only[UN,Bool.or_eq_true,Su,true_or,and_true]
def J4{k:Nat}{kd p s:Int}(hp:p≠0)(h1:kd≠1)(h0:kd≠0):Zf L k kd p s=true↔(FQ L k=kd∧(opAt L k).source=s∧(opAt L k).peer=p):=by
 rw[lY h1 h0];unfold Zf;simp only[UN,Bool.or_eq_true,Su,hp,false_or,and_assoc]
def Dc(s:VS)(k:Nat):(UA L x s k).want=(S4 L x s k).want:=by unfold UA;split <;> rfl
def MO(s:VS)(k:Nat):(UA L x s k).ZV=(S4 L x s k).ZV:=by unfold UA;split <;> rfl
def LA(s:VS)(k:Nat):(UA L x s k).ZJ=(S4 L x s k).ZJ:=by unfold UA;split <;> rfl
def NV(s:VS)(q:Int):(YS s q).want=s.want∧(YS s q).ZV=s.ZV:=by unfold YS;(repeat' split) <;> exact⟨rfl,rfl⟩
def mb(s:VS)(k q:Int):(P9 s k q).want=if k=12 then q else s.want:=by unfold P9;(repeat' split) <;> first|rfl|omega
def uF(s:VS)(k q:Int):(P9 s k q).ZV=if k=10 then true else if k=11 then false else s.ZV:=by unfold P9;(repeat' split) <;> first|rfl|omega
def BU(hp:x.peer≠0)(s:VS)(k:Nat):(S4 L x s k).want=if Wk x k=true∧Zf L k 12 x.peer x.source=true then(opAt L k).ZC else s.want:=by
 have hd:=J4 (L:=L) (k:=k) (kd:=12) (p:=x.peer) (s:=x.source) hp Zd Zd;unfold S4;split
 ·rename_i hs
  split
  ·rename_i h
   rw[mb];by_cases h12:FQ L k=12
   ·rw[ZU h12,ZU ⟨h.2,hd.2 ⟨h12,hs,h.1⟩⟩]
   ·rw[Z3 h12,Z3 (fun h'=>h12 (hd.1 h'.2).1)];exact(NV _ _).1
  ·rename_i h
   rw[Z3 (fun h'=>h ⟨(hd.1 h'.2).2.2,h'.1⟩)];exact(NV _ _).1
 ·rename_i hs
  rw[Z3 (fun h'=>hs (hd.1 h'.2).2.1)]
def My(hp:x.peer≠0)(s:VS)(k:Nat):(S4 L x s k).ZV=if Wk x k=true∧Zf L k 10 x.peer x.source=true then true else if Wk x k=true∧Zf L k 11 x.peer x.source=true then false else s.ZV:=by
 have hd:=J4 (L:=L) (k:=k) (kd:=10) (p:=x.peer) (s:=x.source) hp Zd Zd;have he:=J4 (L:=L) (k:=k) (kd:=11) (p:=x.peer) (s:=x.source) hp Zd Zd;unfold S4;split
 ·rename_i hs
  split
  ·rename_i h
   rw[uF];by_cases GC:FQ L k=10
   ·rw[ZU GC,ZU ⟨h.2,hd.2 ⟨GC,hs,h.1⟩⟩]
   ·have q10:¬(Wk x k=true∧Zf L k 10 x.peer x.source=true):=fun h'=>GC (hd.1 h'.2).1
    rw[Z3 GC,Z3 q10];by_cases h11:FQ L k=11
    ·rw[ZU h11,ZU ⟨h.2,he.2 ⟨h11,hs,h.1⟩⟩]
    ·have q11:¬(Wk x k=true∧Zf L k 11 x.peer x.source=true):=fun h'=>h11 (he.1 h'.2).1
     rw[Z3 h11,Z3 q11];exact(NV _ _).2
  ·rename_i h
   rw[Z3 (fun h'=>h ⟨(hd.1 h'.2).2.2,h'.1⟩),Z3 (fun h'=>h ⟨(he.1 h'.2).2.2,h'.1⟩)];exact(NV _ _).2
 ·rename_i hs
  rw[Z3 (fun h'=>hs (hd.1 h'.2).2.1),Z3 (fun h'=>hs (he.1 h'.2).2.1)]
def qd(s:VS)(k q:Int):(P9 s k q).ZJ=s.ZJ:=by unfold P9;(repeat' split) <;> rfl
def Lf(s:VS)(k:Nat):(S4 L x s k).ZJ=if Zf L k 8 0 x.source=true then true else if Zf L k 9 0 x.source=true∨Zf L k 4 0 x.source=true then false else s.ZJ:=by
 simp only[J3 (kd:=8) Zd Zd,J3 (kd:=9) Zd Zd,J3 (kd:=4) Zd Zd]
 have e:(opAt L k).source=x.source→(S4 L x s k).ZJ=(YS s (FQ L k)).ZJ:=fun hs=>by
  unfold S4;rw[ZU hs];split
  ·exact qd _ _ _
  ·rfl
 by_cases hs:(opAt L k).source=x.source
 ·rw[e hs];unfold YS;by_cases h49:FQ L k=4∨FQ L k=9
  ·rw[ZU h49,Z3 (fun h'=>by omega),ZU (by rcases h49 with h|h <;> first|exact WQ ⟨h,hs⟩|exact WG ⟨h,hs⟩)]
  ·rw[Z3 h49];by_cases h8:FQ L k=8
   ·rw[ZU h8,ZU ⟨h8,hs⟩]
   ·rw[Z3 h8,Z3 (fun h'=>h8 h'.1),Z3 (fun h'=>h49 (h'.elim (fun h=>WG h.1) (fun h=>WQ h.1)))]
 ·unfold S4;rw[Z3 hs,Z3 (fun h'=>hs h'.2),Z3 (fun h'=>h'.elim (fun h=>hs h.2) (fun h=>hs h.2))]
def JH(hp:x.peer≠0){a:Nat}:∀ {b:Nat},a≤b→(∀j,a≤j→j<b→Wk x (j:Int)=true→Zf L j 12 x.peer x.source=false)→(ZL L x b).want=(ZL L x a).want
 | 0,Ry,_=>by rw[Nat.le_zero.1 Ry]
 | b+1,Ry,h=>by
  by_cases e:a=b+1
  ·rw[e]
  ·have ih:=JH hp (a:=a) (b:=b) Zo (fun j h1 h2 h3=>h j h1 Zo h3);show(UA L x (ZL L x b) b).want=_;rw[Dc,BU hp,Z3,ih];rintro⟨h1,h2⟩;rw[h b Zo Zo h1]at h2;cases h2
def Pt(hp:x.peer≠0){a:Nat}:∀ {b:Nat},a≤b→(∀j,a≤j→j<b→Wk x (j:Int)=true→Zf L j 10 x.peer x.source=false∧Zf L j 11 x.peer x.source=false)→(ZL L x b).ZV=(ZL L x a).ZV
 | 0,Ry,_=>by rw[Nat.le_zero.1 Ry]
 | b+1,Ry,h=>by
  by_cases e:a=b+1
  ·rw[e]
  ·have ih:=Pt hp (a:=a) (b:=b) Zo (fun j h1 h2 h3=>h j h1 Zo h3);show(UA L x (ZL L x b) b).ZV=_;rw[MO,My hp,Z3,Z3,ih]
   ·rintro⟨h1,h2⟩;rw[(h b Zo Zo h1).2]at h2;cases h2
   ·rintro⟨h1,h2⟩;rw[(h b Zo Zo h1).1]at h2;cases h2
def NT{a:Nat}:∀ {b:Nat},a≤b→(∀j,a≤j→j<b→Zf L j 8 0 x.source=false∧Zf L j 9 0 x.source=false∧Zf L j 4 0 x.source=false)→(ZL L x b).ZJ=(ZL L x a).ZJ
 | 0,Ry,_=>by rw[Nat.le_zero.1 Ry]
 | b+1,Ry,h=>by
  by_cases e:a=b+1
  ·rw[e]
  ·have ih:=NT (a:=a) (b:=b) Zo (fun j h1 h2=>h j h1 Zo);obtain⟨h1,h2,h3⟩:=h b Zo Zo;show(UA L x (ZL L x b) b).ZJ=_;rw[LA,Lf,h1,h2,h3,ih];rfl
def mP(hp:x.peer≠0){k b:Nat}(hk:k+1≤b)(hl:Wk x (k:Int)=true)(hd:Zf L k 12 x.peer x.source=true)(h:∀j,k+1≤j→j<b→Wk x (j:Int)=true→Zf L j 12 x.peer x.source=false):(ZL L x b).want=(opAt L k).ZC:=by
 rw[JH hp hk h];show(UA L x (ZL L x k) k).want=_;rw[Dc,BU hp,ZU ⟨hl,hd⟩]
def qT(hp:x.peer≠0){b:Nat}(h:∀j,j<b→Wk x (j:Int)=true→Zf L j 12 x.peer x.source=false):(ZL L x b).want=(opAt L x.Mx.toNat).ZC:=
 JH hp (Tv b) (fun j _ h2=>h j h2)
def IH{k:Nat}{a b p q s r:Int}(Ry:a≠b)(h:Zf L k a p s=true):Zf L k b q r=false:=by
 cases h2:Zf L k b q r
 ·rfl
 ·unfold Zf at h h2;simp only[UN,Su]at h h2;exact absurd (h.1.1.2.symm.trans h2.1.1.2) Ry
def uH(hp:x.peer≠0){k b:Nat}(hk:k+1≤b)(hl:Wk x (k:Int)=true)(hd:Zf L k 10 x.peer x.source=true)(h:∀j,k+1≤j→j<b→Wk x (j:Int)=true→Zf L j 10 x.peer x.source=false∧Zf L j 11 x.peer x.source=false):(ZL L x b).ZV=true:=by
 rw[Pt hp hk h];show(UA L x (ZL L x k) k).ZV=_;rw[MO,My hp,ZU ⟨hl,hd⟩]
def yS(hp:x.peer≠0){k b:Nat}(hk:k+1≤b)(hl:Wk x (k:Int)=true)(hd:Zf L k 11 x.peer x.source=true)(h:∀j,k+1≤j→j<b→Wk x (j:Int)=true→Zf L j 10 x.peer x.source=false∧Zf L j 11 x.peer x.source=false):(ZL L x b).ZV=false:=by
 rw[Pt hp hk h];show(UA L x (ZL L x k) k).ZV=_;have q:¬(Wk x (k:Int)=true∧Zf L k 10 x.peer x.source=true):=fun h'=>by rw[IH Zd hd]at h';exact Bool.noConfusion h'.2
 rw[MO,My hp,Z3 q,ZU ⟨hl,hd⟩]
def yL(hp:x.peer≠0){b:Nat}(h:∀j,j<b→Wk x (j:Int)=true→Zf L j 10 x.peer x.source=false∧Zf L j 11 x.peer x.source=false):(ZL L x b).ZV=false:=
 Pt hp (Tv b) (fun j _ h2=>h j h2)
def p8{k b:Nat}(hk:k+1≤b)(hd:Zf L k 8 0 x.source=true)(h:∀j,k+1≤j→j<b→Zf L j 8 0 x.source=false∧Zf L j 9 0 x.source=false∧Zf L j 4 0 x.source=false):(ZL L x b).ZJ=true:=by
 rw[NT hk h];show(UA L x (ZL L x k) k).ZJ=_;rw[LA,Lf,ZU hd]
def zD{k b:Nat}(hk:k+1≤b)(hd:Zf L k 9 0 x.source=true∨Zf L k 4 0 x.source=true)(h:∀j,k+1≤j→j<b→Zf L j 8 0 x.source=false∧Zf L j 9 0 x.source=false∧Zf L j 4 0 x.source=false):(ZL L x b).ZJ=false:=by
 rw[NT hk h];show(UA L x (ZL L x k) k).ZJ=_;have q:¬Zf L k 8 0 x.source=true:=fun h'=>hd.elim (fun hh=>by rw[IH Zd hh]at h';exact Bool.noConfusion h') (fun hh=>by rw[IH Zd hh]at h';exact Bool.noConfusion h')
 rw[LA,Lf,Z3 q,ZU hd]
def uA{b:Nat}(h:∀j,j<b→Zf L j 8 0 x.source=false∧Zf L j 9 0 x.source=false∧Zf L j 4 0 x.source=false):(ZL L x b).ZJ=false:=
 NT (Tv b) (fun j _ h2=>h j h2)
def Kr(s:VS)(k:Nat):(UA L x s k).cur=if(YU L x k&&Wx s (Z6 L k).WI)=true then(Z6 L k).WI.ZC else(S4 L x s k).cur:=by unfold UA;split <;> rfl
def sf(s:VS)(k q:Int):(P9 s k q).cur=if k=10 then -1 else s.cur:=by unfold P9;(repeat' split) <;> first|rfl|omega
def Ml(s:VS)(q:Int):(YS s q).cur=if q=8 then -1 else s.cur:=by unfold YS;(repeat' split) <;> first|rfl|omega
def E3(hp:x.peer≠0)(s:VS)(k:Nat):(S4 L x s k).cur=if(Wk x k=true∧Zf L k 10 x.peer x.source=true)∨Zf L k 8 0 x.source=true then -1 else s.cur:=by
 have hd:=J4 (L:=L) (k:=k) (kd:=10) (p:=x.peer) (s:=x.source) hp Zd Zd;have he:=J3 (L:=L) (k:=k) (kd:=8) (s:=x.source) Zd Zd;unfold S4;by_cases hs:(opAt L k).source=x.source
 ·rw[ZU hs];by_cases h8:FQ L k=8
  ·rw[ZU (WG (he.2 ⟨h8,hs⟩))];split
   ·rw[sf,Ml,ZU h8];split <;> rfl
   ·rw[Ml,ZU h8]
  ·have n8:¬Zf L k 8 0 x.source=true:=fun h'=>h8 (he.1 h').1
   split
   ·rename_i h
    rw[sf,Ml,Z3 h8];by_cases GC:FQ L k=10
    ·rw[ZU GC,ZU (WQ ⟨h.2,hd.2 ⟨GC,hs,h.1⟩⟩)]
    ·rw[Z3 GC,Z3 (fun h'=>h'.elim (fun q=>GC (hd.1 q.2).1) n8)]
   ·rename_i h
    rw[Ml,Z3 h8,Z3 (fun h'=>h'.elim (fun q=>h ⟨(hd.1 q.2).2.2,q.1⟩) n8)]
 ·rw[Z3 hs,Z3 (fun h'=>h'.elim (fun q=>hs (hd.1 q.2).2.1) (fun q=>hs (he.1 q).2))]
def JZ(hp:x.peer≠0){a:Nat}:∀ {b:Nat},a≤b→(∀j,a≤j→j<b→Vk L x j=false∧(Wk x (j:Int)=true→Zf L j 10 x.peer x.source=false)∧Zf L j 8 0 x.source=false)→(ZL L x b).cur=(ZL L x a).cur
 | 0,Ry,_=>by rw[Nat.le_zero.1 Ry]
 | b+1,Ry,h=>by
  by_cases e:a=b+1
  ·rw[e]
  ·have ih:=JZ hp (a:=a) (b:=b) Zo (fun j h1 h2=>h j h1 Zo);obtain⟨h1,h2,h3⟩:=h b Zo Zo;have h1':¬(YU L x b&&Wx (ZL L x b) (Z6 L b).WI)=true:=fun h'=>Bool.noConfusion (h1.symm.trans h')
   have h4:¬((Wk x b=true∧Zf L b 10 x.peer x.source=true)∨Zf L b 8 0 x.source=true):=fun h'=>h'.elim (fun q=>Bool.noConfusion ((h2 q.1).symm.trans q.2)) (fun q=>Bool.noConfusion (h3.symm.trans q))
   show(UA L x (ZL L x b) b).cur=_;rw[Kr,Z3 h1',E3 hp,Z3 h4,ih]
def jQ(hp:x.peer≠0){k b:Nat}(hk:k+1≤b)(ho:Vk L x k=true)(h:∀j,k+1≤j→j<b→Vk L x j=false∧(Wk x (j:Int)=true→Zf L j 10 x.peer x.source=false)∧Zf L j 8 0 x.source=false):(ZL L x b).cur=(Z6 L k).WI.ZC:=by
 rw[JZ hp hk h];show(UA L x (ZL L x k) k).cur=_;have ho':(YU L x k&&Wx (ZL L x k) (Z6 L k).WI)=true:=ho;rw[Kr,ZU ho']
def Dg{k:Nat}{kd p s:Int}(h:Zf L k kd p s=true):Vk L x k=false:=by
 cases h2:Vk L x k
 ·rfl
 ·unfold Zf at h;unfold Vk YU at h2;simp only[UN,Su]at h h2;exact absurd (h.1.1.1.symm.trans h2.1.1.2) Zd
def eI(hp:x.peer≠0){k b:Nat}(hk:k+1≤b)(hd:(Wk x (k:Int)=true∧Zf L k 10 x.peer x.source=true)∨Zf L k 8 0 x.source=true)(h:∀j,k+1≤j→j<b→Vk L x j=false∧(Wk x (j:Int)=true→Zf L j 10 x.peer x.source=false)∧Zf L j 8 0 x.source=false):(ZL L x b).cur=-1:=by
 rw[JZ hp hk h];show(UA L x (ZL L x k) k).cur=_;have ho:¬(YU L x k&&Wx (ZL L x k) (Z6 L k).WI)=true:=fun h'=>hd.elim (fun q=>Bool.noConfusion ((Dg q.2).symm.trans h')) (fun q=>Bool.noConfusion ((Dg q).symm.trans h'))
 rw[Kr,Z3 ho,E3 hp,ZU hd]
def BV(hp:x.peer≠0):∀ {b:Nat},(∀j,j<b→Wk x (j:Int)=false)→(ZL L x b).cur=-1
 | 0,_=>rfl
 | b+1,h=>by
  have ih:=BV hp (b:=b) (fun j hj=>h j Zo)
  have ho:¬(YU L x b&&Wx (ZL L x b) (Z6 L b).WI)=true:=fun h'=>by
   unfold YU at h';rw[h b Zo]at h';exact Bool.noConfusion h'
  show(UA L x (ZL L x b) b).cur=_;rw[Kr,Z3 ho,E3 hp,ih];split <;> rfl
end
abbrev Open:=Int×Int→Bool
def QT(t:Yz):Int×Int:=(t.peer,t.source)
def oW(S:Open)(t:Yz):Bool:=(decide (t.kind=9)||(Vv t.peer 9&&Vv t.source 9))&&if t.kind=1 then !S (QT t)else if t.kind=2 then S (QT t)else if t.kind=9 then true else S (QT t)
def E1{S:Open}{t:Yz}{p n:Nat}(hp:t.peer=p)(hn:t.source=n)(h1:1≤p)(h2:p<9)(h3:1≤n)(h4:n<9)(h:(if t.kind=1 then !S (QT t)else if t.kind=2 then S (QT t)else if t.kind=9 then true else S (QT t))=true):oW S t=true:=by
 unfold oW;rw[h,hp,hn,(XI _ _).2 ⟨Zo,Zo⟩,(XI _ _).2 ⟨Zo,Zo⟩];simp
def WS(S:Open)(t:Yz):Open:=if t.kind=1 then fun x=>decide (x=QT t)||S x else if t.kind=2 then fun x=> !decide (x=QT t)&&S x else S
def O_(S:Open):List Yz→Prop
 | []=>True
 | t :: l=>oW S t=true∧O_ (WS S t) l
def Good(S:Open)(l:List Yz)(S':Open):Prop:=O_ S l∧l.foldl WS S=S'
def Good.nil(S:Open):Good S [] S:=⟨trivial,rfl⟩
def Good.cons{S S1 S':Open}{t:Yz}{l:List Yz}(h:oW S t=true)(h1:WS S t=S1)(hl:Good S1 l S'):Good S (t :: l) S':=by
 subst h1;exact⟨⟨h,hl.1⟩,hl.2⟩
def LN:∀(a:List Yz) (S:Open) (b:List Yz),O_ S a→O_ (a.foldl WS S) b→O_ S (a++b)
 | [],_,_,_,h=>h
 | t :: a,S,b,h1,h2=>⟨h1.1,LN a (WS S t) b h1.2 h2⟩
def Good.append{S S1 S':Open}{a b:List Yz}(h1:Good S a S1)(h2:Good S1 b S'):Good S (a++b) S':=by
 obtain⟨h1,rfl⟩:=h1;exact⟨LN a S b h1 h2.1,by rw[List.foldl_append];exact h2.2⟩
def BM:∀(l:List Yz) (S:Open),O_ S l→∀(i:Nat) (h:i<l.length),oW ((l.take i).foldl WS S) l[i]=true
 | t :: l,S,h,0,_=>h.1
 | t :: l,S,h,i+1,hi=>BM l (WS S t) h.2 i (by simpa using hi)
def Good.step{S S':Open}{l:List Yz}(h:Good S l S')(i:Nat)(hi:i<l.length):oW ((l.take i).foldl WS S) l[i]=true∧(l.take (i+1)).foldl WS S=WS ((l.take i).foldl WS S) l[i]:=
 ⟨BM l S h.1 i hi,by rw[List.take_succ_eq_append_getElem hi,List.foldl_append];rfl⟩
def Sb{S:Open}:∀(l:List Yz),(∀t∈l,t.kind≠1∧t.kind≠2∧(t.kind=9∨(S (QT t)=true∧Vv t.peer 9=true∧Vv t.source 9=true)))→Good S l S
 | [],_=>Good.nil S
 | t :: l,h=>by
  obtain⟨h1,h2,h3⟩:=h t Zi;refine Good.cons ?_ (by unfold WS;rw[Z3 h1,Z3 h2]) (Sb l fun x hx=>h x (by simp[hx]));unfold oW;rw[Z3 h1,Z3 h2];rcases h3 with h9|⟨a,b,c⟩
  ·rw[ZU h9,WV h9];rfl
  ·rw[a,b,c];split <;> simp
def opens(R:Room):Open:=fun x=>Ze R x.1 x.2
def QI{R:Room}{x:Int×Int}:opens R x=true↔∃p n:Nat,x=((p:Int),(n:Int))∧1≤p∧p<9∧1≤n∧n<9∧(R.sub n p).there=true:=by
 obtain⟨a,b⟩:=x;unfold opens Ze;simp only[UN,XI];constructor
 ·rintro⟨⟨h1,h2⟩,h3⟩;exact⟨a.toNat,b.toNat,by rw[Int.toNat_of_nonneg Zo,Int.toNat_of_nonneg Zo],Zo,Zo,Zo,Zo,h3⟩
 ·rintro⟨p,n,e,h1,h2,h3,h4,h5⟩;simp only[Prod.mk.injEq]at e;obtain⟨rfl,rfl⟩:=e;rw[Wi,Wi];exact⟨⟨⟨Zo,Zo⟩,Zo,Zo⟩,h5⟩
def RN{R:Room}{p n:Nat}(h1:1≤p)(h2:p<9)(h3:1≤n)(h4:n<9):opens R ((p:Int),(n:Int))=(R.sub n p).there:=by
 show Ze R p n=_;unfold Ze;rw[(XI _ _).2 ⟨Zo,Zo⟩,(XI _ _).2 ⟨Zo,Zo⟩,Wi,Wi];simp
def Dh{R':Room}{f:Int×Int→Bool}(h:∀p n:Nat,1≤p→p<9→1≤n→n<9→(R'.sub n p).there=f ((p:Int),(n:Int)))(h0:∀x,f x=true→∃p n:Nat,x=((p:Int),(n:Int))∧1≤p∧p<9∧1≤n∧n<9):opens R'=f:=by
 funext x;rw[Bool.eq_iff_iff];constructor
 ·intro hx;obtain⟨p,n,rfl,h1,h2,h3,h4,h5⟩:=QI.1 hx;rw[←h p n h1 h2 h3 h4];exact h5
 ·intro hx;obtain⟨p,n,rfl,h1,h2,h3,h4⟩:=h0 x hx;rw[QI];exact⟨p,n,rfl,h1,h2,h3,h4,by rw[h p n h1 h2 h3 h4];exact hx⟩
def yE{R:Room}{x:Int×Int}(h:opens R x=true):∃p n:Nat,x=((p:Int),(n:Int))∧1≤p∧p<9∧1≤n∧n<9:=by
 obtain⟨p,n,e,h1,h2,h3,h4,_⟩:=QI.1 h;exact⟨p,n,e,h1,h2,h3,h4⟩
def si(p q n m:Nat):decide (((p:Int),(n:Int))=((q:Int),(m:Int)))=(decide (n=m)&&decide (p=q)):=by
 rw[Bool.eq_iff_iff];simp;omega
def I2(R:Room)(n p:Nat):opens (R.ZO n p UW)=fun x=> !decide (x=((p:Int),(n:Int)))&&opens R x:=by
 refine Dh (fun q m h1 h2 h3 h4=>?_) (fun x hx=>yE (Bool.and_eq_true_iff.1 hx).2);show _=(!decide (((q:Int),(m:Int))=((p:Int),(n:Int)))&&opens R ((q:Int),(m:Int)));rw[si,RN h1 h2 h3 h4,Vy];by_cases e:m=n∧q=p
 ·rw[ZU e,WV e.1,WV e.2];rfl
 ·exact bA
def yF(R:Room){n p:Nat}(x:Sub)(hx:x.there=true)(h1:1≤p)(h2:p<9)(h3:1≤n)(h4:n<9):opens (R.ZO n p x)=fun y=>decide (y=((p:Int),(n:Int)))||opens R y:=by
 refine Dh (fun q m a1 a2 a3 a4=>?_) (fun y hy=>?_)
 ·show _=(decide (((q:Int),(m:Int))=((p:Int),(n:Int)))||opens R ((q:Int),(m:Int)));rw[si,RN a1 a2 a3 a4,Vy];by_cases e:m=n∧q=p
  ·rw[ZU e,WV e.1,WV e.2,hx];rfl
  ·exact bA
 ·rcases Bool.or_eq_true_iff.1 hy with h|h
  ·exact⟨p,n,of_decide_eq_true h,h1,h2,h3,h4⟩
  ·exact yE (R:=R) h
def uD{R R':Room}(h:∀n p,(R'.sub n p).there=(R.sub n p).there):opens R'=opens R:=by
 funext x;unfold opens Ze;rw[h]
def LB(R:Room)(n p:Nat)(x:Sub)(hx:x.there=(R.sub n p).there):opens (R.ZO n p x)=opens R:=by
 refine uD fun m q=>?_
 rw[Vy];split
 ·rename_i e;rw[e.1,e.2];exact hx
 ·rfl
def Hu(n:Nat)(hn:1≤n∧n<9):∀(l:List Nat) (R:Room),l.Nodup→(∀p∈l,1≤p∧p<9∧(R.sub n p).there=true)→Good (opens R) (Xe n l R).1 (opens (Xe n l R).2)
 | [],R,_,_=>Good.nil _
 | p :: l,R,hd,hl=>by
  obtain⟨h1,h2,h3⟩:=hl p Zi;have ho:opens R ((p:Int),(n:Int))=true:=by rw[RN h1 h2 hn.1 hn.2];exact h3
  obtain⟨hd1,nA⟩:=List.nodup_cons.1 hd;refine Good.cons (S1:=opens R) (E1 (p:=p) (n:=n) rfl rfl h1 h2 hn.1 hn.2 ho) rfl (Good.cons (S1:=opens (R.ZO n p UW)) (E1 (p:=p) (n:=n) rfl rfl h1 h2 hn.1 hn.2 ho) (by rw[I2];rfl) (Hu n hn l _ nA fun q hq=>?_));obtain⟨a1,a2,a3⟩:=hl q (by simp[hq]);refine⟨a1,a2,?_⟩;rw[Vy,Z3 (fun e:n=n∧q=p=>hd1 (e.2▸hq))];exact a3
def vh(R:Room)(n:Int):(ZX R n).Nodup:=List.Pairwise.filter _ List.nodup_range
def IQ(R:Room){n:Nat}(hn:1≤n∧n<9):Good (opens R) (gone R n).1 (opens (gone R n).2):=by
 have h:=Hu n hn (ZX R n) R (vh R n) (fun p hp=>by
  obtain⟨h1,h2,_,_,h5⟩:=OE.1 hp
  exact⟨h1,h2,h5⟩)
 exact h
def Ih(R:Room)(hI:Inv R)(p:Nat)(hp:1≤p∧p<9):∀k,Good (opens R) (ZH p R k).1 (opens (ZH p R k).2)
 | 0=>Good.nil _
 | k+1=>by
  have ih:=Ih R hI p hp k;unfold ZH;dsimp only;split
  ·rename_i ht
   have hk:=(PX hI p k).YZ k p ht;refine ih.append (Good.cons ?_ ?_ (Good.nil _))
   ·refine E1 (p:=p) (n:=k) rfl rfl hp.1 hp.2 hk.1 hk.2.1 ?_;show opens (ZH p R k).2 ((p:Int),(k:Int))=true;rw[RN hp.1 hp.2 hk.1 hk.2.1];exact ht
   ·rw[I2];rfl
  ·exact ih
def Ij(R:Room)(hI:Inv R)(p:Nat):∀k,Good (opens R) (ZB R p k).1 (opens (ZB R p k).2)
 | 0=>Good.nil _
 | k+1=>by
  have ih:=Ij R hI p k;unfold ZB;dsimp only;split
  ·rename_i ht
   have hk:=hI.YL k (Bool.and_eq_true_iff.1 ht).1;exact ih.append (IQ _ ⟨hk.1,hk.2.1⟩)
  ·exact ih
def ur(R:Room)(hI:Inv R)(p:Nat)(hp:1≤p∧p<9):Good (opens R) (leave R p).1 (opens (leave R p).2):=
 (Ih R hI p hp 9).append (Ij _ (PX hI p 9) p 9)
def zE{R:Room}{S:Open}{n p:Nat}:∀t∈waits R p n,t.kind≠1∧t.kind≠2∧(t.kind=9∨(S (QT t)=true∧Vv t.peer 9=true∧Vv t.source 9=true)):=by
 intro t ht;unfold waits at ht;split at ht
 ·cases ht
 ·rw[K4]at ht;subst ht;exact⟨by simp[asks],by simp[asks],WQ rfl⟩
def Da(R:Room){n:Nat}(on:Bool):Good (opens R) (mute R n on).1 (opens (mute R n on).2):=by
 have e:opens (mute R n on).2=opens R:=rfl;rw[e];refine Sb _ fun t ht=>?_
 obtain⟨p,hp,ht⟩:=List.mem_flatMap.1 ht;obtain⟨h1,h2,h3,h4,h5⟩:=OE.1 hp
 have ho:opens R ((p:Int),(n:Int))=true:=by
  rw[←e,QI];exact⟨p,n,rfl,h1,h2,h3,h4,h5⟩
 have ho:opens R ((p:Int),(n:Int))=true∧Vv (p:Int) 9=true∧Vv (n:Int) 9=true:=⟨ho,(XI _ _).2 ⟨Zo,Zo⟩,(XI _ _).2 ⟨Zo,Zo⟩⟩;unfold YO at ht;split at ht
 ·rw[K4]at ht;subst ht;exact⟨by simp,by simp,WG ho⟩
 ·exact Yt17
def vz{R:Room}{o:Op}(hI:Inv R)(ok:Ok R o)(sv:Value):Good (opens R) (turns R o sv).1 (opens (turns R o sv).2):=by
 obtain⟨p,hp⟩:=RV (show 0≤o.peer by have:=ok.peer;omega);have Co:1≤p∧p<9:=by have:=ok.peer;omega
 have ep:o.peer.toNat=p:=by rw[hp];rfl
 unfold turns;dsimp only;by_cases k2:o.kind=2
 ·rw[ZU k2];exact Good.nil _
 rw[Z3 k2];by_cases k3:o.kind=3
 ·rw[ZU k3,ep];exact ur R hI p Co
 rw[Z3 k3];have k4':4≤o.kind:=by have:=ok.kind;omega
 obtain⟨n,hn⟩:=RV (show 0≤o.source by have:=ok.src k4';omega);have H8:1≤n∧n<9:=by have:=ok.src k4';omega
 have en:o.source.toNat=n:=by rw[hn];rfl
 have fH:Vv o.peer 9=true:=(XI _ _).2 ⟨Zo,Zo⟩;have GD:Vv o.source 9=true:=(XI _ _).2 ⟨Zo,Zo⟩;rw[ep,en];by_cases k4:o.kind=4
 ·rw[ZU k4];exact Good.nil _
 rw[Z3 k4];have k5':5≤o.kind:=by omega
 by_cases k5:o.kind=5
 ·rw[ZU k5];exact IQ R H8
 rw[Z3 k5];by_cases k6:o.kind=6
 ·rw[ZU k6];have hs:=(Oe (ok.abt k5') k6).2.1;rw[ep,en]at hs;have e1:=yF R (n:=n) (p:=p) ⟨true,false,o.ZC⟩ rfl Co.1 Co.2 H8.1 H8.2;unfold begin;dsimp only;rw[ep,en];refine Good.cons (S1:=opens (R.ZO n p ⟨true,false,o.ZC⟩)) ?_ ?_ (Sb _ fun t ht=>?_)
  ·refine E1 (p:=p) (n:=n) hp hn Co.1 Co.2 H8.1 H8.2 ?_;show(!opens R (o.peer,o.source))=true;rw[hp,hn,RN Co.1 Co.2 H8.1 H8.2,hs];rfl
  ·rw[e1];unfold WS QT;rw[ZU rfl];dsimp only;rw[hp,hn]
  ·split at ht
   ·rw[K4]at ht;subst ht;refine⟨by simp,by simp,WG ⟨?_,fH,GD⟩⟩;show opens _ (o.peer,o.source)=true;rw[hp,hn,RN Co.1 Co.2 H8.1 H8.2,Vy,ZU ⟨rfl,rfl⟩]
   ·rw[K4]at ht;subst ht;exact⟨by simp[asks],by simp[asks],WQ rfl⟩
 rw[Z3 k6];by_cases k7:o.kind=7
 ·rw[ZU k7];have hs:=(Tf (ok.abt k5') (WQ k7)).1;rw[ep,en]at hs;refine Good.cons ?_ ?_ (Good.nil _)
  ·refine E1 (p:=p) (n:=n) hp hn Co.1 Co.2 H8.1 H8.2 ?_;show opens R (o.peer,o.source)=true;rw[hp,hn,RN Co.1 Co.2 H8.1 H8.2];exact hs
  ·rw[I2];unfold WS QT;rw[Z3 (show¬(2:Int)=1 by decide),ZU rfl];dsimp only;rw[hp,hn]
 rw[Z3 k7];by_cases k8:o.kind=8
 ·rw[ZU k8];exact Da R true
 rw[Z3 k8];by_cases k9:o.kind=9
 ·rw[ZU k9];exact Da R false
 rw[Z3 k9];have hs:=(Tf (ok.abt k5') (WG Zo)).1;rw[ep,en]at hs;have ho:opens R (o.peer,o.source)=true∧Vv o.peer 9=true∧Vv o.source 9=true:=⟨by rw[hp,hn,RN Co.1 Co.2 H8.1 H8.2];exact hs,fH,GD⟩;by_cases k10:o.kind=10
 ·rw[ZU k10];dsimp only;rw[LB R n p ⟨(R.sub n p).there,true,(R.sub n p).want⟩ rfl];refine Sb _ fun t ht=>?_
  rw[K4]at ht;subst ht;exact⟨by simp,by simp,WG ho⟩
 rw[Z3 k10];by_cases k11:o.kind=11
 ·rw[ZU k11];dsimp only;rw[LB R n p ⟨(R.sub n p).there,false,(R.sub n p).want⟩ rfl];refine Sb _ fun t ht=>?_
  exact Yt17
 rw[Z3 k11];by_cases k12:o.kind=12
 ·rw[ZU k12];dsimp only;rw[LB R n p ⟨(R.sub n p).there,(R.sub n p).ZV,o.ZC⟩ rfl];refine Sb _ fun t ht=>?_
  exact Yt17
 rw[Z3 k12];exact Good.nil _
def xJ{R:Room}(hI:Inv R)(o:Op)(sv:Value):Good (opens R) (Wq R o sv).1.1 (opens (Wq R o sv).1.2):=by
 unfold Wq;by_cases h0:XQ R o=0
 ·rw[Z3 (by simpa using h0)];exact vz hI (O4 h0) sv
 ·rw[ZU h0];exact Good.nil _
def MP:opens empty=fun _=>false:=by
 funext x;rw[JU];intro h;obtain⟨p,n,_,_,_,_,_,h5⟩:=QI.1 h;cases h5
def Wo(z:Zt):Int×Int:=(z.peer,z.source)
def XB(n at':Int)(dead:Int×Int→Bool)(ls:List Zt):List Zt:=ls.map fun z=>if z.fin=n∧dead (Wo z)=true then{z with fin:=at'}else z
def S5{n at':Int}{dead:Int×Int→Bool}{ls:List Zt}(h:∀z∈ls,z.fin=n→dead (Wo z)=false):XB n at' dead ls=ls:=by
 unfold XB
 conv=>rhs;rw[←List.map_id ls]
 refine List.map_congr_left fun z hz=>?_
 by_cases hf:z.fin=n
 ·rw[Z3 (by rw[h z hz hf];simp)];rfl
 ·rw[Z3 (fun x=>hf x.1)];rfl
def E8{n at':Int}(V5:at'≠n)(d1 d2:Int×Int→Bool)(ls:List Zt):XB n at' d2 (XB n at' d1 ls)=XB n at' (fun x=>d1 x||d2 x) ls:=by
 unfold XB;rw[List.map_map];refine List.map_congr_left fun z _=>?_
 have hor:∀b c:Bool,(b||c)=true↔b=true∨c=true:=fun b c=>by rw[Bool.or_eq_true]
 by_cases h1:z.fin=n∧d1 (Wo z)=true
 ·have e1:(if z.fin=n∧d1 (Wo z)=true then{z with fin:=at'}else z)={z with fin:=at'}:=ZU h1;have e2:(if z.fin=n∧(d1 (Wo z)||d2 (Wo z))=true then{z with fin:=at'}else z)={z with fin:=at'}:=ZU ⟨h1.1,(hor _ _).2 (WQ h1.2)⟩;show(fun z:Zt=>if z.fin=n∧d2 (Wo z)=true then{z with fin:=at'}else z) (if z.fin=n∧d1 (Wo z)=true then{z with fin:=at'}else z)=(if z.fin=n∧(d1 (Wo z)||d2 (Wo z))=true then{z with fin:=at'}else z);rw[e1,e2];exact Z3 (fun h=>V5 h.1)
 ·have e1:(if z.fin=n∧d1 (Wo z)=true then{z with fin:=at'}else z)=z:=Z3 h1;show(fun z:Zt=>if z.fin=n∧d2 (Wo z)=true then{z with fin:=at'}else z) (if z.fin=n∧d1 (Wo z)=true then{z with fin:=at'}else z)=(if z.fin=n∧(d1 (Wo z)||d2 (Wo z))=true then{z with fin:=at'}else z);rw[e1];by_cases h2:z.fin=n∧d2 (Wo z)=true
  ·exact(ZU h2).trans (ZU ⟨h2.1,(hor _ _).2 (WG h2.2)⟩).symm
  ·refine(Z3 h2).trans (Z3 ?_).symm;rintro⟨a,b⟩;rcases (hor _ _).1 b with c|c
   ·exact h1 ⟨a,c⟩
   ·exact h2 ⟨a,c⟩
def QS{n at':Int}{d1 d2:Int×Int→Bool}{ls:List Zt}(h:∀z∈ls,z.fin=n→d1 (Wo z)=d2 (Wo z)):XB n at' d1 ls=XB n at' d2 ls:=by
 unfold XB;refine List.map_congr_left fun z hz=>?_
 by_cases hf:z.fin=n
 ·rw[h z hz hf]
 ·rw[Z3 (fun x=>hf x.1),Z3 (fun x=>hf x.1)]
structure LI(n:Int)(S:Open)(ls:List Zt):Prop where
 iff:∀x,S x=true↔∃z∈ls,Wo z=x∧z.fin=n
 last:ls.Pairwise fun a b=>a.fin=n→Wo b≠Wo a
def LI.nil(n:Int):LI n (fun _=>false) []:=⟨fun x=>⟨fun h=>absurd h Zd,fun⟨z,h,_⟩=>by cases h⟩,List.Pairwise.nil⟩
def LI.begin{n:Int}{S:Open}{ls:List Zt}(h:LI n S ls)(p s b:Int)(hS:S (p,s)=false):LI n (fun x=>decide (x=(p,s))||S x) (ls++[⟨p,s,b,n⟩]):=by
 refine⟨fun x=>?_,List.pairwise_append.2 ⟨h.last,List.pairwise_singleton _ _,fun a ha c hc hf he=>?_⟩⟩
 ·rw[Bool.or_eq_true,Su,h.iff x];constructor
  ·rintro(h1|⟨z,h1,h2⟩)
   ·exact⟨_,List.mem_append_right _ (K4.2 rfl),h1.symm,rfl⟩
   ·exact⟨z,List.mem_append_left _ h1,h2⟩
  ·rintro⟨z,h1,h2,h3⟩;rcases EZ.1 h1 with h1|h1
   ·exact WG ⟨z,h1,h2,h3⟩
   ·rw[K4]at h1;subst h1;exact WQ h2.symm
 ·rw[K4]at hc;subst hc;have:=(h.iff (p,s)).2 ⟨a,ha,he.symm,hf⟩;rw[hS]at this;cases this
def LI.end{n at':Int}{S:Open}{ls:List Zt}(h:LI n S ls)(V5:at'≠n)(d:Int×Int→Bool):LI n (fun x=> !d x&&S x) (XB n at' d ls):=by
 refine⟨fun x=>?_,?_⟩
 ·rw[UN,Bool.not_eq_true',h.iff x];constructor
  ·rintro⟨hd,z,h1,h2,h3⟩;refine⟨z,?_,h2,h3⟩;unfold XB;rw[vS];exact⟨z,h1,by rw[Z3];rintro⟨_,hx⟩;rw[h2,hd]at hx;cases hx⟩
  ·rintro⟨z,h1,h2,h3⟩;unfold XB at h1;rw[vS]at h1;obtain⟨y,hy,e⟩:=h1;by_cases hc:y.fin=n∧d (Wo y)=true
   ·rw[ZU hc]at e;subst e;exact absurd h3 V5
   ·rw[Z3 hc]at e;subst e;refine⟨?_,y,hy,h2,h3⟩;rw[JU];intro hx;rw[←h2]at hx;exact hc ⟨h3,hx⟩
 ·unfold XB;rw[List.pairwise_map];have hk:∀z:Zt,Wo (if z.fin=n∧d (Wo z)=true then{z with fin:=at'}else z)=Wo z:=fun z=>by split <;> rfl
  refine h.last.imp fun{a b} Ry hf=>?_
  rw[hk,hk];refine Ry ?_;by_cases hc:a.fin=n∧d (Wo a)=true
  ·exact hc.1
  ·rwa[Z3 hc]at hf
def E9(p s at':Int)(l1:List Zt)(z:Zt)(hz:Wo z=(p,s))(l2:List Zt)(h:∀b∈l2,Wo b≠(p,s)):∀k,k≤l2.length→X7 p s at' (l1++z :: l2) (l1.length+1+k)=l1++{z with fin:=at'} :: l2
 | 0,_=>by
  have e1:(l1++z :: l2).getD l1.length We=z:=by rw[QQ,Z1d (Zq _),Nat.sub_self];rfl
  unfold X7;rw[e1,ZU (by unfold Wo at hz;simpa using hz),List.set_append_right _ _ (Zq _),Nat.sub_self];rfl
 | k+1,hk=>by
  have cf:k<l2.length:=hk
  have e1:(l1++z :: l2).getD (l1.length+1+k) We=l2[k]:=by
   rw[QQ,Z1d Zo,show l1.length+1+k-l1.length=k+1 by omega,Rw,U' cf];rfl
  have WA:=h l2[k] (O6 cf);show X7 p s at' (l1++z :: l2) (l1.length+1+k+1)=_;unfold X7;rw[e1,Z3 (by unfold Wo at WA;simpa using WA)];exact E9 p s at' l1 z hz l2 h k Zo
def oZ{n at':Int}{S:Open}{ls:List Zt}(h:LI n S ls){p s:Int}(hS:S (p,s)=true):X7 p s at' ls ls.length=XB n at' (fun x=>decide (x=(p,s))) ls:=by
 obtain⟨z,hz,hk,hf⟩:=(h.iff (p,s)).1 hS;obtain⟨l1,l2,rfl⟩:=List.append_of_mem hz;have hp:=List.pairwise_append.1 h.last;have hp2:=List.pairwise_cons.1 hp.2.1;have h2:∀b∈l2,Wo b≠(p,s):=fun b hb=>by have:=hp2.1 b hb hf;rwa[hk]at this
 have h1:∀a∈l1,a.fin=n→Wo a≠(p,s):=fun a ha hfa e=>hp.2.2 a ha z (List.mem_cons_self ..) hfa (by rw[hk,e])
 rw[show(l1++z :: l2).length=l1.length+1+l2.length by rw[UC,List.length_cons];omega,E9 p s at' l1 z hk l2 h2 _ (Zq _)];have e1:XB n at' (fun x=>decide (x=(p,s))) l1=l1:=S5 fun a ha hfa=>WH (h1 a ha hfa)
 have e2:XB n at' (fun x=>decide (x=(p,s))) l2=l2:=S5 fun b hb _=>WH (h2 b hb)
 unfold XB at e1 e2 ⊢;rw[Ng,List.map_cons,e1,e2,ZU ⟨hf,WV hk⟩]
def B6:∀(ts:List Yz) (S:Open),(∀t∈ts,t.kind≠1)→∀x,ts.foldl WS S x=true→S x=true
 | [],_,_,_,h=>h
 | t :: ts,S,ht,x,h=>by
  have h1:=B6 ts (WS S t) (fun u hu=>ht u (List.mem_cons_of_mem _ hu)) x h;unfold WS at h1;rw[Z3 (ht t (List.mem_cons_self ..))]at h1;by_cases h2:t.kind=2
  ·rw[ZU h2]at h1;exact(UN _ _ |>.mp h1).2
  ·rwa[Z3 h2]at h1
def QV{n at':Int}(V5:at'≠n):∀(ts:List Yz) (S:Open) (ls:List Zt),LI n S ls→O_ S ts→(∀t∈ts,t.kind≠1) →
  W8 n at' ls ts=XB n at' (fun x=>S x && !(ts.foldl WS S) x) ls∧LI n (ts.foldl WS S) (W8 n at' ls ts)
 | [],S,ls,h,_,_=>⟨(S5 fun z _ _=>by show(S (Wo z) && !(S (Wo z)))=false;cases S (Wo z) <;> rfl).symm,h⟩
 | t :: ts,S,ls,h,hc,hb=>by
  have h1:=hb t (List.mem_cons_self ..);have hb':∀u∈ts,u.kind≠1:=fun u hu=>hb u (List.mem_cons_of_mem _ hu)
  by_cases h2:t.kind=2
  ·have hS:S (QT t)=true:=by
    have:=hc.1;unfold oW at this;rw[Z3 h1,ZU h2]at this;exact(UN _ _ |>.mp this).2
   have e1:Ym n at' ls t=XB n at' (fun x=>decide (x=QT t)) ls:=by
    unfold Ym;rw[Z3 h1,ZU h2];exact oZ h hS
   have e2:WS S t=fun x=> !decide (x=QT t)&&S x:=by unfold WS;rw[Z3 h1,ZU h2]
   have hl:=h.end V5 (fun x=>decide (x=QT t));have ih:=QV V5 ts (WS S t) (Ym n at' ls t) (by rw[e1,e2];exact hl) hc.2 hb';show W8 n at' (Ym n at' ls t) ts=XB n at' (fun x=>S x && !(ts.foldl WS (WS S t)) x) ls∧LI n (ts.foldl WS (WS S t)) (W8 n at' (Ym n at' ls t) ts);refine⟨?_,ih.2⟩;rw[ih.1,e1,E8 V5];refine QS fun z _ _=>?_
   have hf:=B6 ts (WS S t) hb' (Wo z);have e3:WS S t (Wo z)=(!decide (Wo z=QT t)&&S (Wo z)):=by rw[e2]
   by_cases hk:Wo z=QT t
   ·rw[hk]at hf e3 ⊢;rw[WV rfl]at e3
    have e4:ts.foldl WS (WS S t) (QT t)=false:=by
     rw[JU];intro hx;have:=hf hx;rw[e3]at this;cases this
    rw[e4,hS,WV rfl];rfl
   ·rw[e3,WH hk];rfl
  ·have e1:Ym n at' ls t=ls:=by unfold Ym;rw[Z3 h1,Z3 h2]
   have e2:WS S t=S:=by unfold WS;rw[Z3 h1,Z3 h2]
   have zJ:=hc.2;rw[e2]at zJ;have ih:=QV V5 ts S ls h zJ hb';show W8 n at' (Ym n at' ls t) ts=XB n at' (fun x=>S x && !(ts.foldl WS (WS S t)) x) ls∧LI n (ts.foldl WS (WS S t)) (W8 n at' (Ym n at' ls t) ts);rw[e1,e2];exact ih
def Kc(n:Nat):∀(l:List Nat) (R:Room),∀t∈(Xe n l R).1,t.kind≠1
 | [],_,t,h=>by cases h
 | p :: l,R,t,h=>by
  have h:t∈(⟨3,p,n,0,0⟩ :: ⟨2,p,n,0,0⟩ :: (Xe n l (R.ZO n p UW)).1:List Yz):=h;rcases K5.1 h with rfl|h
  ·show(3:Int)≠1;decide
  rcases K5.1 h with rfl|h
  ·show(2:Int)≠1;decide
  ·exact Kc n l _ t h
def Lq(R:Room)(n:Nat):∀t∈(gone R n).1,t.kind≠1:=Kc n _ R
def NJ(p:Nat)(R:Room):∀k,∀t∈(ZH p R k).1,t.kind≠1
 | 0,t,h=>by cases h
 | k+1,t,h=>by
  unfold ZH at h;dsimp only at h;split at h
  ·rcases EZ.1 h with h|h
   ·exact NJ p R k t h
   ·rw[K4]at h;subst h;show(2:Int)≠1;decide
  ·exact NJ p R k t h
def NK(R:Room)(p:Nat):∀k,∀t∈(ZB R p k).1,t.kind≠1
 | 0,t,h=>by cases h
 | k+1,t,h=>by
  unfold ZB at h;dsimp only at h;split at h
  ·rcases EZ.1 h with h|h
   ·exact NK R p k t h
   ·exact Lq _ _ t h
  ·exact NK R p k t h
def M5(R:Room)(p n:Nat):∀t∈waits R p n,t.kind≠1:=fun t h=>by
 unfold waits at h;split at h
 ·cases h
 ·rw[K4]at h;subst h;show(9:Int)≠1;decide
def FO(R:Room)(n:Nat)(on:Bool):∀t∈(mute R n on).1,t.kind≠1:=fun t h=>by
 have h:t∈(ZX (R.YW n {R.src n with ZJ:=on}) n).flatMap (YO (R.YW n {R.src n with ZJ:=on}) n on):=h;rw[List.mem_flatMap]at h;obtain⟨p,_,h⟩:=h;unfold YO at h;split at h
 ·rw[K4]at h;subst h;show(6:Int)≠1;decide
 ·rcases K5.1 h with rfl|h
  ·show(7:Int)≠1;decide
  ·exact M5 _ _ _ t h
def Im(R:Room)(o:Op)(sv:Value)(h6:o.kind≠6):∀t∈(turns R o sv).1,t.kind≠1:=by
 intro t h;unfold turns at h;dsimp only at h;by_cases k2:o.kind=2
 ·rw[ZU k2]at h;cases h
 rw[Z3 k2]at h;by_cases k3:o.kind=3
 ·rw[ZU k3]at h;rcases EZ.1 h with h|h
  ·exact NJ _ _ _ t h
  ·exact NK _ _ _ t h
 rw[Z3 k3]at h;by_cases k4:o.kind=4
 ·rw[ZU k4]at h;cases h
 rw[Z3 k4]at h;by_cases k5:o.kind=5
 ·rw[ZU k5]at h;exact Lq _ _ t h
 rw[Z3 k5,Z3 h6]at h;by_cases k7:o.kind=7
 ·rw[ZU k7,K4]at h;subst h;show(2:Int)≠1;decide
 rw[Z3 k7]at h;by_cases k8:o.kind=8
 ·rw[ZU k8]at h;exact FO _ _ _ t h
 rw[Z3 k8]at h;by_cases k9:o.kind=9
 ·rw[ZU k9]at h;exact FO _ _ _ t h
 rw[Z3 k9]at h;by_cases k10:o.kind=10
 ·rw[ZU k10,K4]at h;subst h;show(4:Int)≠1;decide
 rw[Z3 k10]at h;by_cases k11:o.kind=11
 ·rw[ZU k11]at h;rcases K5.1 h with rfl|h
  ·show(5:Int)≠1;decide
  ·exact M5 _ _ _ t h
 rw[Z3 k11]at h;by_cases k12:o.kind=12
 ·rw[ZU k12]at h;rcases K5.1 h with rfl|h
  ·show(8:Int)≠1;decide
  ·exact M5 _ _ _ t h
 rw[Z3 k12]at h;cases h
def xM{R:Room}(hI:Inv R)(p x:Int):Good (opens R) (YM R p x).1.1 (opens (YM R p x).1.2)∧∀t∈(YM R p x).1.1,t.kind≠1:=by
 unfold YM;split
 ·exact⟨Good.nil _,fun t h=>by cases h⟩
 ·next h=>
  simp only[Bool.or_eq_true,Bool.not_eq_true',Su,not_or,Bool.not_eq_false]at h;obtain⟨m,hm,ht,-,he⟩:=Pr h.1.1
  have hb:1≤(of R x).1.toNat∧(of R x).1.toNat<9:=by
   have h1:=hI.YL m ht;rw[he];show 1≤(m:Int).toNat∧(m:Int).toNat<9;omega
  exact⟨IQ R hb,Lq R _⟩
def Kb(p:Int):∀(l:List Int) (R:Room),Inv R→Wc R→Good (opens R) (Y6 p l R).1.1 (opens (Y6 p l R).1.2)∧∀t∈(Y6 p l R).1.1,t.kind≠1
 | [],R,_,_=>⟨Good.nil _,fun t h=>by cases h⟩
 | x :: l,R,hI,hs=>by
  have h1:=xM hI p x;have h0:=PT p [x] R hI hs;have h2:=Kb p l (YM R p x).1.2 h0.1 h0.2.1
  exact⟨Good.append h1.1 h2.1,fun t h=>by
   rcases EZ.1 h with h|h
   ·exact h1.2 t h
   ·exact h2.2 t h⟩
def ym{R:Room}(hI:Inv R)(hs:Wc R)(p:Int)(i:Rc):Good (opens R) (X_ R p i).1.1 (opens (X_ R p i).1.2)∧∀t∈(X_ R p i).1.1,t.kind≠1:=by
 unfold X_;split
 ·exact⟨Good.nil _,fun t h=>by cases h⟩
 split
 ·exact⟨Good.nil _,fun t h=>by cases h⟩
 split
 ·exact Kb p _ R hI hs
 ·exact⟨Good.nil _,fun t h=>by cases h⟩
def NH(p:Int):∀(l:List Rc) (R:Room),Inv R→Wc R→(∀i∈l,S3 i)→Good (opens R) (Zw p l R).1.1 (opens (Zw p l R).1.2)∧∀t∈(Zw p l R).1.1,t.kind≠1
 | [],R,_,_,_=>⟨Good.nil _,fun t h=>by cases h⟩
 | x :: l,R,hI,hs,hi=>by
  have h1:=ym hI hs p x;have h0:=IX hI hs p (hi x (List.mem_cons_self ..));have h2:=NH p l (X_ R p x).1.2 h0.1 h0.2.1 (fun i h=>hi i (List.mem_cons_of_mem _ h))
  exact⟨Good.append h1.1 h2.1,fun t h=>by
   rcases EZ.1 h with h|h
   ·exact h1.2 t h
   ·exact h2.2 t h⟩
def u_{b:List UInt8}{l:List Rc}(hv:(XX b).1 = .X4 l):∀i∈l,S3 i:=by
 by_cases h3:192≤at8 b 1∧at8 b 1≤223
 ·by_cases h2:(XX b).2=0
  ·have:=OT h3 h2;rw[this]at hv;injection hv with hv
   rw[←hv];exact(S9 b).1
  ·exfalso
   have WA:(XX b).2≠0→(XX b).1 ≠ .X4 l:=by
    unfold XX;by_cases q1:512<b.length
    ·rw[ZU q1];exact fun _ h=>by cases h
    rw[Z3 q1];by_cases q2:b.length<2
    ·rw[ZU q2];exact fun _ h=>by cases h
    rw[Z3 q2,ZU h3];by_cases q4:(Yl b).2≠0
    ·rw[ZU q4];exact fun _ h=>by cases h
    ·rw[Z3 q4];exact fun h=>absurd rfl h
   exact WA h2 hv
 ·exact aS
def findAt{α:Type}(p:α→Bool)(l:List α):Int:=match l.findIdx? p with|some i=>i|none=> -1
def NC{α:Type}{p:α→Bool}{l:List α}{k:Nat}(hk:k<l.length)(hp:p l[k]=true)(hn:∀j (h:j<l.length),j<k→p l[j]=false):findAt p l=k:=by
 unfold findAt
 have:l.findIdx? p=some k:=by
  rw[List.findIdx?_eq_some_iff_getElem];exact⟨hk,hp,fun j hj=>by rw[hn j Zo hj];simp⟩
 rw[this]
def Rx{α:Type}{p:α→Bool}{l:List α}(hn:∀j (h:j<l.length),p l[j]=false):findAt p l=-1:=by
 unfold findAt
 have:l.findIdx? p=none:=by
  rw[List.findIdx?_eq_none_iff];intro x hx;obtain⟨j,hj,rfl⟩:=List.getElem_of_mem hx;exact hn j hj
 rw[this]
def Ff{α β:Type}(f:α→β)(p:β→Bool)(l:List α):findAt p (l.map f)=findAt (fun x=>p (f x)) l:=by
 unfold findAt;rw[List.findIdx?_map];rfl
def Xx{α:Type}{p:α→Bool}{l:List α}(h:0≤findAt p l):∃(k:Nat) (hk:k<l.length),findAt p l=k∧p l[k]=true∧∀j (h:j<l.length),j<k→p l[j]=false:=by
 unfold findAt at h ⊢;cases hf:l.findIdx? p with
 | none=>rw[hf]at h;exact absurd h Zd
 | some k=>
  obtain⟨hk,hp,hn⟩:=List.findIdx?_eq_some_iff_getElem.1 hf;exact⟨k,hk,rfl,hp,fun j h hj=>by have:=hn j hj;simpa using this⟩
def ZK.Xw(T:ZK)(n:Int):Int:=findAt (fun x:U1=>x.num==n) T.Zu
def ZK.YL(T:ZK)(n:Int):Int:=findAt (fun x:V4=>x.num==n) T.Yb
def ZK.YZ(T:ZK)(p s:Int):Int:=findAt (fun x:Vd=>x.peer==p&&x.source==s) T.ZX
def Uv:V4:=⟨0,0,[],false⟩
def ZK.VU(T:ZK)(n:Int):V4:=T.Yb.getD (T.YL n).toNat Uv
def ZK.owner(T:ZK)(n:Int):Int:=if T.YL n<0 then 0 else(T.VU n).own
def ZK.Vi(T:ZK)(n:Int)(k:Nat):List Nat:=((List.range k).map (· + 1)).filter fun p:Nat=>decide (0≤T.YZ p n)
def ZK.Ze(T:ZK)(n:Int):List Nat:=T.Vi n 8
def AR(T:ZK)(n:Int)(k:Nat):T.Vi n (k+1)=T.Vi n k++if 0≤T.YZ ((k:Int)+1) n then[k+1]else[]:=by
 unfold ZK.Vi;rw[ny,Ng,List.filter_append]
 congr 1
 have:((k+1:Nat):Int)=(k:Int)+1:=by omega
 by_cases h:0≤T.YZ ((k:Int)+1) n <;> simp[h]
def RA(T:ZK)(n:Int)(k:Nat):(T.Vi n k).length≤k:=by
 unfold ZK.Vi;have:=List.length_filter_le (fun p:Nat=>decide (0≤T.YZ p n)) ((List.range k).map (· + 1));rw[Te,List.length_range]at this;exact this
def ZK.Rg(T:ZK)(x:Int):Int:=findAt (fun s:V4=>s.ss.contains x) T.Yb
def ZK.of(T:ZK)(x:Int):Int×Int×Bool:=if T.Rg x<0 then(0,0,false)else((T.Yb.getD (T.Rg x).toNat Uv).num,index (T.Yb.getD (T.Rg x).toNat Uv).ss x,true)
def ZK.Vl(T:ZK)(l:List Int)(i:Nat):Bool:=(l.take i).contains (l.getD i 0)||(T.of (l.getD i 0)).2.2
def ZK.Tn(T:ZK)(o:Op)(at':Int):Int:=
 if o.ZG.length<1∨3<o.ZG.length then 5
 else if o.ZG.any (fun s=>decide (s<2)||decide (3221225472≤s))then 5
 else if 0≤at' then 9
 else if(List.range o.ZG.length).any (T.Vl o.ZG)then 9 else 0
def lU:Vd:=⟨0,0,0,false⟩
def ZK.N0(T:ZK)(p s:Int):Vd:=T.ZX.getD (T.YZ p s).toNat lU
def Po(s:V4)(q:Int):Bool:=decide (0≤q)&&decide (q<s.ss.length)
def ZK.Xc(T:ZK)(o:Op)(s:V4):Int:=
 if o.kind=5∨o.kind=8∨o.kind=9 then
  (if s.own≠o.peer then 10 else if o.kind=8∧s.ZJ=true then 9 else if o.kind=9∧s.ZJ=false then 11 else 0)
 else if o.kind=6 then
  (if s.own=o.peer then 10 else if 0≤T.YZ o.peer o.source then 9 else if Po s o.ZC then 0 else 5)
 else if T.YZ o.peer o.source<0 then 8
 else if o.kind=10∧(T.N0 o.peer o.source).ZV=true then 9
 else if o.kind=11∧(T.N0 o.peer o.source).ZV=false then 11
 else if o.kind=12∧Po s o.ZC=false then 5
 else if o.kind=12∧(T.N0 o.peer o.source).want=o.ZC then 9
 else 0
def ZK.XQ(T:ZK)(o:Op):Int:=
 if o.kind<2∨12<o.kind then 4
 else if o.peer<1∨8<o.peer then 5
 else if o.kind=2 then
  (if 0≤T.Xw o.peer then 9 else if !may o.name then 12 else if T.Zu.any (fun x=>decide (key x.name=key o.name))then 9 else 0)
 else if T.Xw o.peer<0 then 8
 else if o.kind=3 then 0
 else if o.source<1∨8<o.source then 5
 else if o.kind=4 then T.Tn o (T.YL o.source)
 else if T.YL o.source<0 then 8
 else T.Xc o (T.VU o.source)
def ZK.ask(T:ZK)(x:Vd):Yz:=⟨9,(T.VU x.source).own,(T.VU x.source).num,0,(T.VU x.source).ss.getD x.want.toNat 0⟩
def ZK.Ww(T:ZK)(p s:Int):ZK:={T with ZX:=T.ZX.eraseIdx (T.YZ p s).toNat}
def ZK.TU(T:ZK)(n:Int):ZK:={T with Yb:=T.Yb.eraseIdx (T.YL n).toNat}
def ZK.NW(T:ZK)(n:Int):ZK:={T with Zu:=T.Zu.eraseIdx (T.Xw n).toNat}
def ZK.X7(n:Int):List Nat→ZK→List Yz×ZK
 | [],T=>([],T)
 | p :: l,T=>let x:=ZK.X7 n l (T.Ww p n);(⟨3,p,n,0,0⟩ :: ⟨2,p,n,0,0⟩ :: x.1,x.2)
def ZK.Yj(T:ZK)(n:Int):List Yz×ZK:=((ZK.X7 n (T.Ze n) T).1,(ZK.X7 n (T.Ze n) T).2.TU n)
structure ZI(w:World)(b:Nat)(T:ZK):Prop where
 Vm:∃pv sv uv,w.heap[b]?=some (.cells #[pv,sv,uv] 91)∧Hl w pv sv uv T
def ZI.lt{w:World}{b:Nat}{T:ZK}(h:ZI w b T):b<w.heap.size:=by
 obtain⟨_,_,_,hc,_⟩:=h.Vm;rcases Nat.lt_or_ge b w with h|h
 ·exact h
 ·rw[DT h]at hc;cases hc
def ZI.below{w w':World}{b:Nat}{T:ZK}(h:ZI w b T)(hb:Below w w w'):ZI w' b T:=by
 have hl:=h.lt;obtain⟨pv,sv,uv,hc,ht⟩:=h.Vm;exact⟨pv,sv,uv,by rw[hb.block b hl];exact hc,ht.below hb⟩
def ch{w:World}{b:Nat}{cs:Array Value}{e:TypeId}(h:w.heap[b]?=some (.cells cs e))(j:Nat):w.cell? ⟨b,j,none⟩=cs[j]?:=by
 simp only[World.cell?,h];rfl
def R9(b:Nat)(T:ZK)(n:Int)(w:World)(hR:ZI w b T) :
  Calls prog 48 (Qk (some ⟨b,0,none⟩) n) w fun e w'=>e = .returned (.int .i64 (T.Xw n))∧Below w w w':=by
 obtain⟨pv,sv,uv,Yh,Xy⟩:=hR.Vm;have hb:=hR.lt;have hlen:=Xy.Zu.len;have c0:=ch Yh 0;have HP:Hid (∀w',Below w w w'→Row w' 103 pv T.Zu.length (T.Zu.flatMap Yr)):=fun w' h=>Xy.Zu.below h
 obtain⟨pa,pc,rfl,_⟩:=id Xy.Zu;have Hg:Hid (T.Xw n=findAt (fun x:U1=>x.num==n) T.Zu):=rfl;clear hR Xy Yh;generalize T.Zu=P at *;go_enter func48,ntmps48;go_wp2;go_loopw [12] (fun i w'=>∃k:Nat,k≤P.length∧i = .int .i64 k∧Below w w w'∧Hid (∀j (h:j<P.length),j<k→(fun x:U1=>x.num==n) P[j]=false)) (fun i _=>P.length-(intOf i).toNat)
 case atStart=>exact⟨0,Zo,rfl,YE _ _,fun j h hj=>by omega⟩
 case round=>
  obtain⟨k,hk,rfl,WO,HN⟩:=hrel;by_cases Vz:k<P.length
  ·obtain⟨g,off,e1,hc⟩:=sj (HP.o wr WO) Zo;subst e1;obtain⟨d0,d1⟩:=hc k P[k] (U' Vz);have HH:Hid ((fun x:U1=>x.num==n) P[k]=true→T.Xw n=k):=fun h=>by rw[Hg.o];exact NC Vz h HN.o
   have HM:Hid ((fun x:U1=>x.num==n) P[k]=false→∀j (h:j<P.length),j<k+1→(fun x:U1=>x.num==n) P[j]=false):=fun h j hj H7=>by
    by_cases e:j=k
    ·subst e;exact h
    ·exact HN.o j hj Zo
   clear hc;generalize P[k]=x at *;obtain⟨x0,x1⟩:=x;dsimp only at d0 d1 HH HM;exact aP
  ·have HF:Hid (T.Xw n=-1):=by show _=_;rw[Hg.o];exact Rx fun j h=>HN.o j h Zo
   go_wp2;go_ret;exact⟨dr HF.o.symm,WO⟩
def VJ(b:Nat)(T:ZK)(n:Int)(w:World)(hR:ZI w b T) :
  Calls prog 49 (Qk (some ⟨b,0,none⟩) n) w fun e w'=>e = .returned (.int .i64 (T.YL n))∧Below w w w':=by
 obtain⟨pv,sv,uv,Yh,Xy⟩:=hR.Vm;have hb:=hR.lt;obtain⟨P,S7,ZW,Ty⟩:=Xy.Yb;have hlen:=ZW.len;have c0:=ch Yh 1;have HP:Hid (∀w',Below w w w'→Row w' 108 sv P.length (P.flatMap Y_)):=fun w' h=>ZW.below h
 have HV:Hid (∀m∈P,∃a k c,m.2 = .slice a k c):=fun m hm=>by
  obtain⟨a,c,h,_⟩:=Ty m hm;exact⟨a,_,c,h⟩
 obtain⟨pa,pc,rfl,_⟩:=id ZW;have Hg:Hid (T.YL n=findAt (fun x:V4×Value=>x.1.num==n) P):=by show _=_;unfold ZK.YL;rw[←S7,Ff]
 clear hR Xy Yh S7 ZW Ty;go_enter func49,ntmps49;go_wp2;go_loopw [12] (fun i w'=>∃k:Nat,k≤P.length∧i = .int .i64 k∧Below w w w'∧Hid (∀j (h:j<P.length),j<k→(fun x:V4×Value=>x.1.num==n) P[j]=false)) (fun i _=>P.length-(intOf i).toNat)
 case atStart=>exact⟨0,Zo,rfl,YE _ _,fun j h hj=>by omega⟩
 case round=>
  obtain⟨k,hk,rfl,WO,HN⟩:=hrel;by_cases Vz:k<P.length
  ·obtain⟨g,off,e1,hc⟩:=R6 (HP.o wr WO) Zo;subst e1;obtain⟨d0,d1,d2,d3⟩:=hc k P[k] (U' Vz);obtain⟨va,vk,vc,hv⟩:=HV.o P[k] (O6 Vz);rw[hv]at d2;have HH:Hid ((fun x:V4×Value=>x.1.num==n) P[k]=true→T.YL n=k):=fun h=>by rw[Hg.o];exact NC Vz h HN.o
   have HM:Hid ((fun x:V4×Value=>x.1.num==n) P[k]=false→∀j (h:j<P.length),j<k+1→(fun x:V4×Value=>x.1.num==n) P[j]=false):=fun h j hj H7=>by
    by_cases e:j=k
    ·subst e;exact h
    ·exact HN.o j hj Zo
   clear hc hv;generalize P[k]=x at *;obtain⟨⟨x0,x1,x2,x3⟩,x4⟩:=x;dsimp only at d0 d1 d3 HH HM;exact aP
  ·have HF:Hid (T.YL n=-1):=by show _=_;rw[Hg.o];exact Rx fun j h=>HN.o j h Zo
   go_wp2;go_ret;exact⟨dr HF.o.symm,WO⟩
def Wd(b:Nat)(T:ZK)(p n:Int)(w:World)(hR:ZI w b T) :
  Calls prog 51 (Qv (some ⟨b,0,none⟩) p n) w fun e w'=>e = .returned (.int .i64 (T.YZ p n))∧Below w w w':=by
 obtain⟨pv,sv,uv,Yh,Xy⟩:=hR.Vm;have hb:=hR.lt;have hlen:=Xy.ZX.len;have c0:=ch Yh 2;have HP:Hid (∀w',Below w w w'→Row w' 105 uv T.ZX.length (T.ZX.flatMap Zb)):=fun w' h=>Xy.ZX.below h
 obtain⟨pa,pc,rfl,_⟩:=id Xy.ZX;have Hg:Hid (T.YZ p n=findAt (fun x:Vd=>x.peer==p&&x.source==n) T.ZX):=rfl;clear hR Xy Yh;generalize T.ZX=P at *;go_enter func51,ntmps51;go_wp2;go_loopw [14] (fun i w'=>∃k:Nat,k≤P.length∧i = .int .i64 k∧Below w w w'∧Hid (∀j (h:j<P.length),j<k→(fun x:Vd=>x.peer==p&&x.source==n) P[j]=false)) (fun i _=>P.length-(intOf i).toNat)
 case atStart=>exact⟨0,Zo,rfl,YE _ _,fun j h hj=>by omega⟩
 case round=>
  obtain⟨k,hk,rfl,WO,HN⟩:=hrel;by_cases Vz:k<P.length
  ·obtain⟨g,off,e1,hc⟩:=N1 (HP.o wr WO) Zo;subst e1;obtain⟨d0,d1,d2,d3⟩:=hc k P[k] (U' Vz);have HH:Hid ((fun x:Vd=>x.peer==p&&x.source==n) P[k]=true→T.YZ p n=k):=fun h=>by rw[Hg.o];exact NC Vz h HN.o
   have HM:Hid ((fun x:Vd=>x.peer==p&&x.source==n) P[k]=false→∀j (h:j<P.length),j<k+1→(fun x:Vd=>x.peer==p&&x.source==n) P[j]=false):=fun h j hj H7=>by
    by_cases e:j=k
    ·subst e;exact h
    ·exact HN.o j hj Zo
   clear hc;generalize P[k]=x at *;obtain⟨x0,x1,x2,x3⟩:=x;dsimp only at d0 d1 d2 d3 HH HM;by_cases hx:x0=p
   ·by_cases hy:x1=n
    ·have HF:=Zh (HH.o (by rw[hx,hy];simp));subst hx hy;go_wp2;go_ret;exact⟨dr HF.o.symm,WO.alloc WO.size _⟩
    ·have rO:(x1==n)=false:=by rw[Wz];exact hy
     have HF:=Zh (HM.o (by rw[rO,Bool.and_false]));subst hx;clear hy;exact ei
   ·have rO:(x0==p)=false:=by rw[Wz];exact hx
    have HF:=Zh (HM.o (by rw[rO,Bool.false_and]));clear hx;exact ei
  ·have HF:Hid (T.YZ p n=-1):=by show _=_;rw[Hg.o];exact Rx fun j h=>HN.o j h Zo
   go_wp2;go_ret;exact⟨dr HF.o.symm,WO⟩
def T5{l:List (V4×Value)}{k:Nat}(h:k<l.length):(l.map Prod.fst).getD k Uv=l[k].1:=by
 rw[QQ,List.getElem?_map,U' h];rfl
def getD_at{l:List Int}{k:Nat}(h:k<l.length):l.getD k 0=l[k]:=by
 rw[QQ,U' h];rfl
def Kw(b:Nat)(T:ZK)(x:Int)(w:World)(hR:ZI w b T) :
  Calls prog 74 (Jk (some ⟨b,0,none⟩) x) w fun e w'=>e = .returned (.tuple (Q7 (T.of x).1 (T.of x).2.1 (T.of x).2.2))∧Below w w w':=by
 obtain⟨pv,sv,uv,Yh,Xy⟩:=hR.Vm;have hb:=hR.lt;obtain⟨P,S7,ZW,Ty⟩:=Xy.Yb;have hlen:=ZW.len;have c0:=ch Yh 1;have HP:Hid (∀w',Below w w w'→Row w' 108 sv P.length (P.flatMap Y_)∧∀m∈P,Row w' 66 m.2 m.1.ss.length (bd m.1.ss)):=fun w' h=>⟨ZW.below h,fun m hm=>(Ty m hm).below h⟩
 obtain⟨pa,pc,rfl,_⟩:=id ZW;have Hg:Hid (T.Rg x=findAt (fun s:V4×Value=>s.1.ss.contains x) P):=by show _=_;unfold ZK.Rg;rw[←S7,Ff]
 have HOF:Hid (T.of x=if T.Rg x<0 then(0,0,false)else((T.Yb.getD (T.Rg x).toNat Uv).num,index (T.Yb.getD (T.Rg x).toNat Uv).ss x,true)):=rfl;have dt:=Zh S7;clear hR Xy Yh S7 ZW Ty;go_enter func74,ntmps74;go_wp2;go_loopw [16] (fun i w'=>∃k:Nat,k≤P.length∧i = .int .i64 k∧Below w w w'∧Hid (∀j (h:j<P.length),j<k→(fun s:V4×Value=>s.1.ss.contains x) P[j]=false)) (fun i _=>P.length-(intOf i).toNat)
 case atStart=>exact⟨0,Zo,rfl,YE _ _,fun j h hj=>by omega⟩
 case round=>
  obtain⟨k,hk,rfl,WO,HN⟩:=hrel;by_cases Vz:k<P.length
  ·obtain⟨g,off,e1,hc⟩:=R6 (HP.o wr WO).1 Zo;subst e1;obtain⟨d0,d1,d2,d3⟩:=hc k P[k] (U' Vz);have hr:=(HP.o wr WO).2 P[k] (O6 Vz)
   have HH:Hid ((fun s:V4×Value=>s.1.ss.contains x) P[k]=true→T.of x=(P[k].1.num,index P[k].1.ss x,true)):=fun h=>by
    have e:=NC (p:=fun s:V4×Value=>s.1.ss.contains x) Vz h HN.o;rw[HOF.o,Hg.o,e,Z3 Zo,Wi,←dt.o,T5 Vz]
   have HM:Hid ((fun s:V4×Value=>s.1.ss.contains x) P[k]=false→∀j (h:j<P.length),j<k+1→(fun s:V4×Value=>s.1.ss.contains x) P[j]=false):=fun h j hj H7=>by
    by_cases e:j=k
    ·subst e;exact h
    ·exact HN.o j hj Zo
   clear hc;generalize P[k]=y at *;obtain⟨⟨x0,x1,x2,x3⟩,x4⟩:=y;dsimp only at d0 d1 d2 d3 HH HM hr;have nC:=hr.len;obtain⟨ya,yc,rfl,_⟩:=id hr
   have R8:Hid (0<x2.length→∃g off,ya=some ⟨g,off,none⟩∧g<wr.heap.size∧∀j,j<x2.length→wr.cell? ⟨g,off+j,none⟩=some (.int .u32 (x2.getD j 0))):=fun h=>by
    obtain⟨g,off,cap,e1,_,_,hg,hc⟩:=M0 hr h;exact⟨g,off,(slice_inj e1).1,hg,hc⟩
   clear hr;obtain⟨wo,rfl⟩:∃wo:World,wo=wr:=⟨_,rfl⟩;go_wp2
   go_loop [23] (fun i=>∃m:Nat,m≤x2.length∧i = .int .i64 m∧Hid (∀j,j<m→x2.getD j 0≠x)) (fun i=>x2.length-(intOf i).toNat)
   case atStart=>exact⟨0,Zo,rfl,fun j hj=>by omega⟩
   case round=>
    obtain⟨m,hm,rfl,Iq⟩:=hrel;by_cases MG:m<x2.length
    ·obtain⟨g3,off3,e3,hg3,pA⟩:=R8.o Zo;subst e3;have hd:=pA m MG;clear pA;by_cases hx:x2.getD m 0=x
     ·have HF:=Zh (HH.o (by rw[List.contains_iff_mem,←hx,getD_at MG];exact O6 MG));have HI:Hid (index x2 x=m):=index_hit MG hx Iq.o;rw[hx]at hd;clear hx;go_wp2
      go_ret3
      exact⟨by rw[HF.o,HI.o];rfl,WO.alloc WO.size _⟩
     ·have rO:(x2.getD m 0==x)=false:=by rw[Wz];exact hx
      have HX:=Zh hx;clear hx;generalize hy:x2.getD m 0=y at *;have HY:=Zh hy;clear hy;go_wp2
      go_round
      case rel=>exact⟨m+1,Zo,Zn,fun j hj=>by by_cases xY:j<m;exact Iq.o j xY;rw[show j=m by omega,HY.o];exact HX.o⟩
      case measure=>simp[intOf];omega
    ·have HF:=Zh (HM.o (by
      rw[JU];intro h;rw[List.contains_iff_mem]at h;obtain⟨j,hj,e⟩:=List.getElem_of_mem h
      exact Iq.o j Zo (by rw[getD_at hj];exact e)))
     exact ei
  ·have HF:Hid (T.of x=(0,0,false)):=by
    show _=_;rw[HOF.o,Hg.o,Rx (fun j h=>HN.o j h Zo),ZU Zd]
   go_wp2
   go_ret3
   exact⟨by rw[HF.o];rfl,WO⟩
def Oa(b:Nat)(T:ZK)(n:Int)(w:World)(hR:ZI w b T) :
  Calls prog 75 (Qk (some ⟨b,0,none⟩) n) w fun e w'=>e = .returned (.int .i64 (T.owner n))∧Below w w w':=by
 have CS:=Zh (VJ b T n w hR);have LJ:Hid (T.owner n=if T.YL n<0 then 0 else(T.Yb.getD (T.YL n).toNat Uv).own):=rfl
 have HAT:Hid (0≤T.YL n→∃k:Nat,k<T.Yb.length∧T.YL n=k):=fun h=>by
  obtain⟨k,hk,e,_⟩:=Xx h;exact⟨k,hk,e⟩
 have hb:=hR.lt;have HR:=Zh hR;clear hR;by_cases hneg:T.YL n<0
 ·have HF:Hid (T.owner n=0):=by show _=_;rw[LJ.o,ZU hneg]
  generalize T.YL n=q at *;go_enter func75,ntmps75;go_wp2_with (go_at_call 49;refine CS.o.mono ?_;rintro e w1 ⟨rfl,YV⟩)
  go_ret;exact⟨dr HF.o.symm,YV⟩
 ·obtain⟨k,hk,e⟩:=HAT.o Zo;have HF:Hid (T.owner n=(T.Yb.getD k Uv).own):=by show _=_;rw[LJ.o,Z3 hneg,e,Wi]
  rw[e]at CS;clear e hneg HAT LJ;go_enter func75,ntmps75;go_wp2_with fail
  refine CS.o.mono ?_;rintro e w1 ⟨rfl,YV⟩;obtain⟨pv,sv,uv,Yh,Xy⟩:=(HR.o.below YV).Vm;obtain⟨P,S7,ZW,Ty⟩:=Xy.Yb;have Vz:k<P.length:=by rw[←S7,Te]at hk;exact hk
  have hlen:=ZW.len;have c0:=ch Yh 1;obtain⟨pa,pc,rfl,_⟩:=id ZW;obtain⟨g,off,e1,hc⟩:=R6 ZW Zo;subst e1;obtain⟨d0,d1,d2,d3⟩:=hc k P[k] (U' Vz);have HX:Hid ((T.Yb.getD k Uv).own=P[k].1.own):=by show _=_;rw[←S7,T5 Vz]
  clear hc d0 d2 d3 Xy Yh S7 ZW Ty;generalize P[k].1.own=ow at *;go_wp2;go_ret;exact⟨dr (by rw[HF.o,HX.o]),YV⟩
def Ix(b:Nat)(T:ZK)(n:Int)(w:World)(hR:ZI w b T) :
  Calls prog 50 (Qk (some ⟨b,0,none⟩) n) w fun e w'=>(∃v,e = .returned v∧Row w' 3 v (T.Ze n).length (ints (T.Ze n)))∧Below w w w':=by
 have HR:=Zh hR;have hb:=hR.lt;have HS:Hid (T.Ze n=T.Vi n 8):=rfl;clear hR;go_enter func50,ntmps50;go_wp2;go_loopw [5,6] (fun v i w'=>∃k:Nat,k≤8∧i = .int .i64 ((k:Int)+1)∧Below w w w'∧w'.ownsRow w 3 1 v (T.Vi n k).length (ints (T.Vi n k))) (fun _ i _=>9-(intOf i).toNat)
 case atStart=>exact⟨0,Zo,rfl,YE _ _,TH _ _ _ _⟩
 case round=>
  obtain⟨k,hk,rfl,WO,Yy⟩:=hrel;have Yd:=Zh Yy;clear Yy;by_cases fL:k<8
  ·have CS:=Zh (Wd b T ((k:Int)+1) n wr (HR.o.below WO));have rq:=Zh (AR T n k);have Hi:=RA T n k;by_cases hs:0≤T.YZ ((k:Int)+1) n
   ·have HF:Hid (T.Vi n (k+1)=T.Vi n k++[k+1]):=by show _=_;rw[rq.o,ZU hs]
    generalize T.YZ ((k:Int)+1) n=q at *;generalize T.Vi n k=G at *;go_wp2_with (first|(go_at_call 51;refine CS.o.mono ?_;rintro e w1 ⟨rfl,YV⟩)|(at_builtin;refine YN rfl (.tmp 16) (.tmp 18) 72 rfl w WU _ G.length (ints G) rfl ?a1 _ 1 [.int .i64 ((k:Int)+1)] rfl ?a2 rfl ?a4 ?a5 ?a6 ?a7 (fun v' w2 M7 HG=>?_)))
    case a1=>exact(Zp Yd.o YV).alloc _
    case a2=>exact Yn _ _ 1 _ [.int .i64 ((k:Int)+1)] Zd Zi
    case a4=>intro u hu;simp at hu;subst hu;rfl
    case a5=>omega
    case a6=>omega
    case a7=>have h1:=WO.size;have h2:=YV.size;simp;omega
    go_roundw
    case rel=>
     refine⟨k+1,Zo,Zn,?_,?_⟩
     ·have h1:=WO.trans (YV.mono WO.size);have h2:=h1.alloc h1.size (.cells #[.int .i64 ((k:Int)+1)] 3);exact h2.grown HG.o h2.size (YG Yd.o)
     ·rw[HF.o,UC,Ib];exact M7.o
    case measure=>simp[intOf];omega
   ·have HF:Hid (T.Vi n (k+1)=T.Vi n k):=by show _=_;rw[rq.o,Z3 hs,rC]
    generalize T.YZ ((k:Int)+1) n=q at *;go_wp2_with (go_at_call 51;refine CS.o.mono ?_;rintro e w1 ⟨rfl,YV⟩)
    go_roundw
    case rel=>
     refine⟨k+1,Zo,Zn,WO.trans (YV.mono WO.size),?_⟩;rw[HF.o];exact Zp Yd.o YV
    case measure=>simp[intOf];omega
  ·have cf:k=8:=by omega
   subst cf;go_wp2;go_ret;exact⟨⟨_,rfl,by rw[HS.o];exact Row.Z4 Yd.o⟩,WO⟩
def Bj(T:ZK)(l:List Int)(k:Nat):T.Vl l k=((l.take k).contains (l.getD k 0)||(T.of (l.getD k 0)).2.2):=rfl
def Gq(b:Nat)(T:ZK)(o:Op)(at':Int)(sa ba:Option Addr)(sc bl bc:Nat)(w:World)(hR:ZI w b T)
  (ZW:XG w (.slice sa o.ZG.length sc) o.ZG.length (bd o.ZG)) :
  Calls prog 122 (Qu (some ⟨b,0,none⟩) (Jr o sa o.ZG.length sc ba bl bc) at') w fun e w'=>e = .returned (.int .i64 (T.Tn o at'))∧Below w w w':=by
 have CO:=Zh (fun(w1:World) (x:Int) (h:Below w w w1)=>Kw b T x w1 (hR.below h));obtain⟨kd,p,n,q,nm,ss⟩:=o;have hb:=hR.lt;have HP:Hid (T.Tn ⟨kd,p,n,q,nm,ss⟩ at'=(if ss.length<1∨3<ss.length then 5 else if ss.any (fun s=>decide (s<2)||decide (3221225472≤s))then 5 else if 0≤at' then 9 else if(List.range ss.length).any (T.Vl ss)then 9 else 0)):=rfl;dsimp only at *;have hlen:=ZW.len;clear hR;generalize T.Tn ⟨kd,p,n,q,nm,ss⟩ at'=Bb at *;by_cases h1:ss.length<1
 ·have HF:Hid (Bb=5):=by show _=_;rw[HP.o,ZU (WQ h1)]
  exact bo
 by_cases h2:3<ss.length
 ·have HF:Hid (Bb=5):=by show _=_;rw[HP.o,ZU (WG h2)]
  exact bo
 have iN:Hid (Bb=(if ss.any (fun s=>decide (s<2)||decide (3221225472≤s))then 5 else if 0≤at' then 9 else if(List.range ss.length).any (T.Vl ss)then 9 else 0)):=by
  show _=_;rw[HP.o,Z3 Zo]
 obtain⟨g,off,cap,e1,_,_,hg,Yp⟩:=OY ZW Zo;cases e1;have HC:=Zh Yp;have U0:=Zh ZW;clear Yp ZW HP;go_enter func122,ntmps122;go_wp2
 go_loop [29] (fun i=>∃k:Nat,k≤ss.length∧i = .int .i64 k∧Hid (∀j,j<k→2≤ss.getD j 0∧ss.getD j 0<3221225472)) (fun i=>ss.length-(intOf i).toNat)
 case atStart=>exact⟨0,Tv _,rfl,fun j hj=>by omega⟩
 case round=>
  obtain⟨k,hk,rfl,N_⟩:=hrel;by_cases Vz:k<ss.length
  ·exact Yx45
  ·have HP3:Hid (Bb=if 0≤at' then 9 else if(List.range ss.length).any (T.Vl ss)then 9 else 0):=by
    exact aT
   clear N_ iN;by_cases V5:0≤at'
   ·have HF:Hid (Bb=9):=by show _=_;rw[HP3.o,ZU V5]
    go_wp2;go_ret;exact⟨dr HF.o.symm,Z' _ _⟩
   ·have HP4:Hid (Bb=if(List.range ss.length).any (T.Vl ss)then 9 else 0):=by show _=_;rw[HP3.o,Z3 V5]
    clear HP3;go_wp2;go_loopw [45] (fun i w'=>∃k:Nat,k≤ss.length∧i = .int .i64 k∧Below w w w'∧w.heap.size<w'.heap.size∧w'.cell? ⟨w,5,none⟩=some (.slice (some ⟨g,off,none⟩) ss.length sc)∧Hid (∀j,j<k→T.Vl ss j=false)) (fun i _=>ss.length-(intOf i).toNat)
    case atStart=>exact⟨0,Tv _,rfl,Z' _ _,by simp,by simp,fun j hj=>by omega⟩
    case round=>
     obtain⟨k,hk,rfl,WO,T8,AQ,N_⟩:=hrel;by_cases Vz:k<ss.length
     ·have Cr:=U0.o.below WO;obtain⟨g',off',cap',e1,_,_,hg',Yp⟩:=OY Cr Zo;cases e1;have hc:=Yp k Vz;have HCR:=Zh Yp;have ah:=Zh (CO.o wr (ss.getD k 0) WO);have dG:=Zh (Bj T ss k)
      have iL:Hid (T.Vl ss k=true→Bb=9):=by
       intro h;rw[HP4.o,ZU];rw[List.any_eq_true];exact⟨k,by simpa using Vz,h⟩
      clear Yp Cr;generalize T.of (ss.getD k 0)=O at *;obtain⟨o1,o2,o3⟩:=O;dsimp only at ah dG
      have HCN:Hid ((ss.take k).contains (ss.getD k 0)=true↔∃j,j<k∧ss.getD j 0=ss.getD k 0):=by
       rw[Hid,List.contains_iff_mem,List.mem_iff_getElem];constructor
       ·rintro⟨j,hj,e⟩;rw[SC]at hj;rw[List.getElem_take]at e;exact⟨j,Zo,by rw[getD_at Zo];exact e⟩
       ·rintro⟨j,hj,e⟩;exact⟨j,by rw[SC];omega,by rw[List.getElem_take,←getD_at Zo];exact e⟩
      generalize(ss.take k).contains (ss.getD k 0)=cn at *;generalize pP:ss.getD k 0=x at *;clear pP;obtain⟨wo,rfl⟩:∃wo:World,wo=wr:=⟨_,rfl⟩;go_wp2
      go_loop [55] (fun i=>∃m:Nat,m≤k∧i = .int .i64 m∧Hid (∀j,j<m→ss.getD j 0≠x)) (fun i=>k-(intOf i).toNat)
      case atStart=>exact⟨0,Zo,rfl,fun j hj=>by omega⟩
      case round=>
       obtain⟨m,hm,rfl,HN⟩:=hrel;by_cases cr:m<k
       ·have hd:=HCR.o m Zo;by_cases hx:ss.getD m 0=x
        ·have HF:=Zh (iL.o (by rw[dG.o,HCN.o.2 ⟨m,cr,hx⟩];rfl));rw[hx]at hd;clear hx;go_wp2;go_ret;exact⟨dr HF.o.symm,WO⟩
        ·have rO:(x==ss.getD m 0)=false:=by rw[Wz];exact fun e=>hx e.symm
         have HX:=Zh hx;clear hx;generalize hy:ss.getD m 0=y at *;have HY:=Zh hy;clear hy;go_wp2
         go_round
         case rel=>exact⟨m+1,Zo,Zn,fun j hj=>by by_cases xY:j<m;exact HN.o j xY;rw[show j=m by omega,HY.o];exact HX.o⟩
         case measure=>simp[intOf];omega
       ·have fB:cn=false:=by
         rw[JU];intro h;obtain⟨j,hj,e⟩:=HCN.o.1 h;exact HN.o j Zo e
        cases o3
        ·have HF:Hid (T.Vl ss k=false):=by show _=_;rw[dG.o,fB];rfl
         clear fB;go_wp2_with (go_at_call 74;refine ah.o.mono ?_;rintro e w2 ⟨rfl,Y7⟩;have Hx:=(Y7.cell (p:=⟨w,5,none⟩) T8).trans AQ)
         exact aQ
        ·have HF:=Zh (iL.o (by rw[dG.o,Bool.or_true]));clear fB;go_wp2_with (go_at_call 74;refine ah.o.mono ?_;rintro e w2 ⟨rfl,Y7⟩)
         go_ret;exact⟨dr HF.o.symm,WO.trans (Y7.mono WO.size)⟩
     ·exact aW
def Bx(b:Nat)(T:ZK)(o:Op)(s:V4)(sa ba ca:Option Addr)(sl sc bl bc cc:Nat)(w:World)(hk:o.kind=5∨o.kind=8∨o.kind=9) :
  Calls prog 123 (Je (some ⟨b,0,none⟩) (Jr o sa sl sc ba bl bc) (Qq s.num s.own ca s.ss.length cc s.ZJ)) w fun e w'=>e = .returned (.int .i64 (T.Xc o s))∧Below w w w':=by
 obtain⟨kd,p,n,q,nm,ss⟩:=o;obtain⟨s0,s1,s2,s3⟩:=s;dsimp only at *
 have HW:Hid (T.Xc ⟨kd,p,n,q,nm,ss⟩ ⟨s0,s1,s2,s3⟩=(if s1≠p then 10 else if kd=8∧s3=true then 9 else if kd=9∧s3=false then 11 else 0)):=by
  show _=_;unfold ZK.Xc;dsimp only;rw[ZU hk]
 generalize T.Xc ⟨kd,p,n,q,nm,ss⟩ ⟨s0,s1,s2,s3⟩=wv at *;rcases hk with rfl|rfl|rfl
 all_goals
  go_enter func123,ntmps123;go_wp2;all_goals(go_ret;refine⟨dr ?_,((YE _ _).alloc (Zq _) _).alloc Zi _⟩)
  all_goals(rw[HW.o];first|(simp[*];done)|(simp_all;done)|skip)
def LG(b:Nat)(T:ZK)(o:Op)(s:V4)(sa ba ca:Option Addr)(sl sc bl bc cc:Nat)(w:World)(hR:ZI w b T)(hk:o.kind=6) :
  Calls prog 123 (Je (some ⟨b,0,none⟩) (Jr o sa sl sc ba bl bc) (Qq s.num s.own ca s.ss.length cc s.ZJ)) w fun e w'=>e = .returned (.int .i64 (T.Xc o s))∧Below w w w':=by
 have CS:=Zh (fun(w1:World) (h:Below w w w1)=>Wd b T o.peer o.source w1 (hR.below h));obtain⟨kd,p,n,q,nm,ss⟩:=o;obtain⟨s0,s1,s2,s3⟩:=s;dsimp only at *;subst hk;have HW:Hid (T.Xc ⟨6,p,n,q,nm,ss⟩ ⟨s0,s1,s2,s3⟩=(if s1=p then 10 else if 0≤T.YZ p n then 9 else if decide (0≤q)&&decide (q<s2.length)then 0 else 5)):=rfl;clear hR;generalize T.Xc ⟨6,p,n,q,nm,ss⟩ ⟨s0,s1,s2,s3⟩=wv at *;generalize T.YZ p n=k at *;generalize s2.length=sln at *;go_enter func123,ntmps123;go_wp2_with (go_at_call 51;refine(CS.o _ (((YE _ _).alloc (Zq _) _).alloc Zi _)).mono ?_;rintro e w1 ⟨rfl,YV⟩;obtain⟨Ls,IV⟩:=Sv YV;have PF:=YV.size)
 all_goals(go_ret;refine⟨dr ?_,(((YE _ _).alloc (Zq _) _).alloc Zi _).trans (YV.mono TY)⟩)
 all_goals(rw[HW.o];first|(simp[*];done)|(simp_all;done)|(simp_all;omega)|skip)
def Es(b:Nat)(T:ZK)(o:Op)(s:V4)(sa ba ca:Option Addr)(sl sc bl bc cc:Nat)(w:World)(hR:ZI w b T)(hk:o.kind=7∨o.kind=10∨o.kind=11∨o.kind=12)(hn:T.YZ o.peer o.source<0) :
  Calls prog 123 (Je (some ⟨b,0,none⟩) (Jr o sa sl sc ba bl bc) (Qq s.num s.own ca s.ss.length cc s.ZJ)) w fun e w'=>e = .returned (.int .i64 (T.Xc o s))∧Below w w w':=by
 have CS:=Zh (fun(w1:World) (h:Below w w w1)=>Wd b T o.peer o.source w1 (hR.below h));have HW:Hid (T.Xc o s=8):=by show _=_;unfold ZK.Xc;rw[Z3 Zo,Z3 Zo,ZU hn]
 obtain⟨kd,p,n,q,nm,ss⟩:=o;obtain⟨s0,s1,s2,s3⟩:=s;dsimp only at *;clear hR;generalize T.Xc ⟨kd,p,n,q,nm,ss⟩ ⟨s0,s1,s2,s3⟩=wv at *;generalize T.YZ p n=k at *;generalize s2.length=sln at *;rcases hk with rfl|rfl|rfl|rfl
 all_goals
  go_enter func123,ntmps123;go_wp2_with (go_at_call 51;refine(CS.o _ (((YE _ _).alloc (Zq _) _).alloc Zi _)).mono ?_;rintro e w1 ⟨rfl,YV⟩;obtain⟨Ls,IV⟩:=Sv YV;have PF:=YV.size)
  all_goals(go_ret;exact⟨dr HW.o.symm,(((YE _ _).alloc (Zq _) _).alloc Zi _).trans (YV.mono TY)⟩)
def MA{l:List Vd}{k:Nat}(h:k<l.length):l.getD k lU=l[k]:=by
 rw[QQ,U' h];rfl
def Gr(b:Nat)(T:ZK)(o:Op)(s:V4)(sa ba ca:Option Addr)(sl sc bl bc cc:Nat)(w:World)(hR:ZI w b T)(hk:o.kind=7∨o.kind=10∨o.kind=11∨o.kind=12)(hn:0≤T.YZ o.peer o.source) :
  Calls prog 123 (Je (some ⟨b,0,none⟩) (Jr o sa sl sc ba bl bc) (Qq s.num s.own ca s.ss.length cc s.ZJ)) w fun e w'=>e = .returned (.int .i64 (T.Xc o s))∧Below w w w':=by
 obtain⟨k,Vz,Ru,_,_⟩:=Xx hn;have Ru:T.YZ o.peer o.source=k:=Ru;have CS:=Zh (fun(w1:World) (h:Below w w w1)=>Wd b T o.peer o.source w1 (hR.below h));have HR:=Zh hR
 have HW:Hid (T.Xc o s=(if o.kind=10∧T.ZX[k].ZV=true then 9 else if o.kind=11∧T.ZX[k].ZV=false then 11 else if o.kind=12∧Po s o.ZC=false then 5 else if o.kind=12∧T.ZX[k].want=o.ZC then 9 else 0)):=by
  show _=_;unfold ZK.Xc ZK.N0;rw[Z3 Zo,Z3 Zo,Z3 Zo,Ru,Wi,MA Vz]
 rw[Ru]at CS;obtain⟨kd,p,n,q,nm,ss⟩:=o;obtain⟨s0,s1,s2,s3⟩:=s;dsimp only at *;unfold Po at HW;dsimp only at HW;clear hR Ru hn;generalize T.Xc ⟨kd,p,n,q,nm,ss⟩ ⟨s0,s1,s2,s3⟩=wv at *;generalize s2.length=sln at *;rcases hk with rfl|rfl|rfl|rfl
 all_goals
  go_enter func123,ntmps123;go_wp2_with fail
  refine(CS.o _ (((YE _ _).alloc (Zq _) _).alloc Zi _)).mono ?_;rintro e w1 ⟨rfl,YV⟩;obtain⟨Ls,IV⟩:=Sv YV;have PF:=YV.size;obtain⟨pv,sv,uv,Yh,Xy⟩:=((HR.o.below (((YE _ _).alloc (Zq _) _).alloc Zi _)).below YV).Vm;have m1:=Xy.ZX.len;have c2:=ch Yh 2;have ZW:=Xy.ZX;obtain⟨pa,pc,rfl,_⟩:=id ZW;obtain⟨g,off,e1,hc⟩:=N1 ZW Zo;subst e1;obtain⟨d0,d1,d2,d3⟩:=hc k T.ZX[k] (U' Vz);have VA:=Zh YV;clear hc Yh Xy ZW YV;generalize T.ZX[k].want=wt at *;generalize T.ZX[k].ZV=ps at *;go_wp2_with fail
 all_goals try(go_quiet (fail);go_wp2)
 all_goals(go_ret;refine⟨dr ?_,?_⟩)
 all_goals try(first|exact(((YE _ _).alloc (Zq _) _).alloc Zi _).trans (VA.o.mono TY)|exact below_drewN ((((YE _ _).alloc (Zq _) _).alloc Zi _).trans (VA.o.mono TY)) _)
 all_goals(rw[HW.o];first|(simp[*];done)|(simp_all;done)|(simp_all;omega)|skip)
def ZK.ZH(p:Int)(T:ZK):Nat→List Yz×ZK
 | 0=>([],T)
 | k+1=>let x:=ZK.ZH p T k;if 0≤x.2.YZ p ((k:Int)+1)then(x.1++[⟨2,p,(k:Int)+1,0,0⟩],x.2.Ww p ((k:Int)+1))else x
def ZK.ZB(p:Int)(T:ZK):Nat→List Yz×ZK
 | 0=>([],T)
 | k+1=>let x:=ZK.ZB p T k;if x.2.owner ((k:Int)+1)=p then(x.1++(x.2.Yj ((k:Int)+1)).1,(x.2.Yj ((k:Int)+1)).2)else x
def ZK.leave(T:ZK)(p:Int):List Yz×ZK:=
 ((ZK.ZH p T 8).1++(ZK.ZB p (ZK.ZH p T 8).2 8).1,(ZK.ZB p (ZK.ZH p T 8).2 8).2.NW p)
def ZK.ZF(T:ZK)(n:Int)(on:Bool):ZK:={T with Yb:=T.Yb.set (T.YL n).toNat {T.VU n with ZJ:=on} }
def ZK.YO(T:ZK)(n:Int)(on:Bool)(p:Nat):List Yz:=
 if on then[⟨6,p,n,0,0⟩]else⟨7,p,n,0,0⟩ :: (if(T.N0 p n).ZV then[]else[T.ask (T.N0 p n)])
def ZK.mute(T:ZK)(n:Int)(on:Bool):List Yz×ZK:=(((T.ZF n on).Ze n).flatMap ((T.ZF n on).YO n on),T.ZF n on)
def ZK.ZO(T:ZK)(p n:Int)(x:Vd):ZK:={T with ZX:=T.ZX.set (T.YZ p n).toNat x}
def ZK.changed(T:ZK)(o:Op)(kind:Int):Vd:=
 if kind=4 then{T.N0 o.peer o.source with ZV:=true}else if kind=5 then{T.N0 o.peer o.source with ZV:=false}else{T.N0 o.peer o.source with want:=o.ZC}
def ZK.change(T:ZK)(o:Op)(kind:Int):List Yz×ZK:=
 let x:=T.changed o kind
 let T1:=T.ZO o.peer o.source x
 (⟨kind,o.peer,o.source,if kind=8 then o.ZC else 0,0⟩ :: (if x.ZV||(T1.VU o.source).ZJ then[]else[T1.ask x]),T1)
def ZK.Md(T:ZK)(x:U1):ZK:={T with Zu:=T.Zu++[x]}
def ZK.IE(T:ZK)(x:V4):ZK:={T with Yb:=T.Yb++[x]}
def ZK.U6(T:ZK)(x:Vd):ZK:={T with ZX:=T.ZX++[x]}
def ZK.subscribe(T:ZK)(o:Op):List Yz×ZK:=
 let x:Vd:=⟨o.peer,o.source,o.ZC,false⟩
 (⟨1,o.peer,o.source,o.ZC,0⟩ :: (if((T.U6 x).VU o.source).ZJ then[⟨6,o.peer,o.source,0,0⟩]else[(T.U6 x).ask x]),T.U6 x)
def ZK.turns(T:ZK)(o:Op):List Yz×ZK:=
 if o.kind=2 then([],T.Md ⟨o.peer,o.name⟩)
 else if o.kind=3 then T.leave o.peer
 else if o.kind=4 then([],T.IE ⟨o.source,o.peer,o.ZG,false⟩)
 else if o.kind=5 then T.Yj o.source
 else if o.kind=6 then T.subscribe o
 else if o.kind=7 then([⟨2,o.peer,o.source,0,0⟩],T.Ww o.peer o.source)
 else if o.kind=8 then T.mute o.source true
 else if o.kind=9 then T.mute o.source false
 else if o.kind=10 then T.change o 4
 else if o.kind=11 then T.change o 5
 else T.change o 8
def ZK.Wq(T:ZK)(o:Op):(List Yz×ZK)×Int:=if T.XQ o≠0 then(([],T),T.XQ o)else(T.turns o,0)
def ZK.YM(T:ZK)(p x:Int):(List Yz×ZK)×Int:=
 if !(T.of x).2.2||decide (T.Xw p<0)||decide (T.owner (T.of x).1≠p)then(([],T),8)else(T.Yj (T.of x).1,0)
def small:Nat:=100000
structure ZK.Small(T:ZK):Prop where
 Zu:T.Zu.length≤small
 Yb:T.Yb.length≤small
 ZX:T.ZX.length≤small
def ZI.EA{w:World}{b:Nat}{T:ZK}(h:ZI w b T){e:TypeId}(he:e≠91):∀k c fr,k=b→w.heap[k]?≠some (.cells c e fr):=by
 obtain⟨_,_,_,hc,_⟩:=h.Vm;intro k c fr hk;subst hk;rw[hc];exact Ub (fun h=>he h.symm)
def ZI.Yv{w:World}{b:Nat}{T:ZK}(h:ZI w b T)(j:Nat):w.frozen? ⟨b,j,none⟩=false:=by
 obtain⟨_,_,_,hc,_⟩:=h.Vm;simp[World.frozen?,hc]
def ZI.zk{w:World}{b:Nat}{T:ZK}(h:ZI w b T){v:Value}{l:List U1}(hr:Row w 103 v l.length (l.flatMap Yr)):ZI (w.setCell ⟨b,0,none⟩ v) b {T with Zu:=l}:=by
 have t1:=h.EA (e:=103) Zd;have t2:=h.EA (e:=108) Zd;have t3:=h.EA (e:=105) Zd;have t4:=h.EA (e:=66) Zd;obtain⟨pv,sv,uv,hc,ha,⟨ms,YV,Y7,WM⟩,Rt⟩:=h.Vm;have hf:Fr w (· = b) w (w.setCell ⟨b,0,none⟩ v):=(Fr.refl _ _ _).setAt _ _;refine⟨v,sv,uv,by simp[World.setCell,Array.getElem?_modify,hc],?_⟩;exact⟨hr.fr hf (Zq _) t1,⟨ms,YV,Y7.fr hf (Zq _) t2,fun m hm=>(WM m hm).fr hf (Zq _) t4⟩,Rt.fr hf (Zq _) t3⟩
def ZI.GQ{w:World}{b:Nat}{T:ZK}(h:ZI w b T){v:Value}(ms:List (V4×Value)){l:List V4}(hl:ms.map Prod.fst=l)(hr:Row w 108 v ms.length (ms.flatMap Y_))(Ty:∀m∈ms,Row w 66 m.2 m.1.ss.length (bd m.1.ss)) :
  ZI (w.setCell ⟨b,1,none⟩ v) b {T with Yb:=l}:=by
 have t1:=h.EA (e:=103) Zd;have t2:=h.EA (e:=108) Zd;have t3:=h.EA (e:=105) Zd;have t4:=h.EA (e:=66) Zd;obtain⟨pv,sv,uv,hc,ha,_,Rt⟩:=h.Vm;have hf:Fr w (· = b) w (w.setCell ⟨b,1,none⟩ v):=(Fr.refl _ _ _).setAt _ _;refine⟨pv,v,uv,by simp[World.setCell,Array.getElem?_modify,hc],?_⟩;exact⟨ha.fr hf (Zq _) t1,⟨ms,hl,hr.fr hf (Zq _) t2,fun m hm=>(Ty m hm).fr hf (Zq _) t4⟩,Rt.fr hf (Zq _) t3⟩
def ZI.KL{w:World}{b:Nat}{T:ZK}(h:ZI w b T){v:Value}{l:List Vd}(hr:Row w 105 v l.length (l.flatMap Zb)):ZI (w.setCell ⟨b,2,none⟩ v) b {T with ZX:=l}:=by
 have t1:=h.EA (e:=103) Zd;have t2:=h.EA (e:=108) Zd;have t3:=h.EA (e:=105) Zd;have t4:=h.EA (e:=66) Zd;obtain⟨pv,sv,uv,hc,ha,⟨ms,YV,Y7,WM⟩,Rt⟩:=h.Vm;have hf:Fr w (· = b) w (w.setCell ⟨b,2,none⟩ v):=(Fr.refl _ _ _).setAt _ _;refine⟨pv,sv,v,by simp[World.setCell,Array.getElem?_modify,hc],?_⟩;exact⟨ha.fr hf (Zq _) t1,⟨ms,YV,Y7.fr hf (Zq _) t2,fun m hm=>(WM m hm).fr hf (Zq _) t4⟩,hr.fr hf (Zq _) t3⟩
def Tb(l:List Vd):∀u∈l.flatMap Zb,u.oneCell'=true:=by
 intro u hu;obtain⟨x,_,hx⟩:=List.mem_flatMap.1 hu;exact KS x u hx
def Ta(l:List Vd):(l.flatMap Zb).length=l.length*4:=XH Zb 4 (fun _=>rfl) l
def IP{α:Type}(f:α→List Value)(k:Nat)(hk:∀x,(f x).length=k)(l:List α)(n:Nat):(l.flatMap f).take (n*k)=(l.take n).flatMap f:=by
 by_cases h:n≤l.length
 ·conv=>lhs;rw[←List.take_append_drop n l,O7]
  rw[List.take_append_of_le_length dP,Ex dP]
 ·rw[Ex (by rw[XH f k hk];exact Nat.mul_le_mul_right k Zo),Ex Zo]
def IM{α:Type}(f:α→List Value)(k:Nat)(hk:∀x,(f x).length=k)(l:List α)(n:Nat):(l.flatMap f).drop (n*k)=(l.drop n).flatMap f:=by
 by_cases h:n≤l.length
 ·conv=>lhs;rw[←List.take_append_drop n l,O7]
  rw[List.drop_append_of_le_length dP,List.drop_of_length_le dP,IC]
 ·rw[List.drop_of_length_le (by rw[XH f k hk];exact Nat.mul_le_mul_right k Zo),List.drop_of_length_le Zo];rfl
def TE{w w3:World}{cs:Array Value}{e:TypeId}(h:Below (w.heap.size+1) (w.alloc (.cells cs e)) w3)(j:Nat):w3.cell? ⟨w,j,none⟩=cs[j]?∧w3.frozen? ⟨w,j,none⟩=false:=by
 have hb:=h.block w Zo;rw[Z9]at hb;exact⟨by simp only[World.cell?,hb];rfl,by simp[World.frozen?,hb]⟩
def SJ(w:World)(g:Nat):Prop:=∃c f,w.heap[g]?=some (.cells c 158 f)
def SJ.set{w:World}{g:Nat}(h:SJ w g)(a:Addr)(u:Value):SJ (w.setCell a u) g:=by
 obtain⟨c,f,h⟩:=h;unfold SJ;by_cases e:a.block=g
 ·subst e;simp[World.setCell,Array.getElem?_modify,h]
 ·refine⟨c,f,?_⟩;simp[World.setCell,Array.getElem?_modify,e,h]
def SJ.drew{w:World}{g:Nat}(h:SJ w g):SJ w.drew g:=h
def SJ.Z8{w w3:World}{cs:Array Value}(h:Below (w.heap.size+1) (w.alloc (.cells cs 158)) w3):SJ w3 w.heap.size:=by
 have hb:=h.block w Zo;rw[Z9]at hb;exact⟨_,_,hb⟩
def ZI.KM{w:World}{b:Nat}{T:ZK}(h:ZI w b T){g:Nat}(hg:SJ w g)(j:Nat)(u:Value):ZI (w.setCell ⟨g,j,none⟩ u) b T:=by
 obtain⟨c,f,hg⟩:=hg;have hf:Fr w (· = g) w (w.setCell ⟨g,j,none⟩ u):=(Fr.refl _ _ _).setAt _ _
 have GH:∀e,158≠e→∀k c fr,k=g→w.heap[k]?≠some (.cells c e fr):=by
  intro e he k c fr hk;subst hk;rw[hg];exact Ub he
 have hb:=h.lt;obtain⟨pv,sv,uv,hc,ht⟩:=h.Vm;exact⟨pv,sv,uv,by rw[hf.block b hb (fun e=>GH _ Zd b _ _ e hc)];exact hc,ht.fr hf (Zq _) (GH _ Zd) (GH _ Zd) (GH _ Zd) (GH _ Zd)⟩
def ZI.drew{w:World}{b:Nat}{T:ZK}(h:ZI w b T):ZI w.drew b T:=h.below (YE _ _).drew
def ZI.alloc{w:World}{b:Nat}{T:ZK}(h:ZI w b T)(o:Obj):ZI (w.alloc o) b T:=h.below (Z' _ _)
def Lh(b:Nat)(T:ZK)(p n:Int)(w:World)(hR:ZI w b T)(hs:T.Small)(hh:0≤T.YZ p n) :
  Calls prog 100 (Qv (some ⟨b,0,none⟩) p n) w fun e w'=>e = .returned (VN ⟨2,p,n,0,0⟩)∧ZI w' b (T.Ww p n)∧Fr w (· = b) w w':=by
 obtain⟨k,hk,Ru,-,-⟩:=Xx hh;have Ru:T.YZ p n=k:=Ru;have CS:=Zh (fun(w1:World) (h:Below w w w1)=>Wd b T p n w1 (hR.below h));rw[Ru]at CS;have hb:=hR.lt;have HR:=Zh hR;have HE:Hid (T.Ww p n={T with ZX:=T.ZX.take k++T.ZX.drop (k+1)}):=by show _=_;unfold ZK.Ww;rw[Ru,Wi,List.eraseIdx_eq_take_drop_succ]
 have Va:=hs.ZX;unfold small at Va;obtain⟨pv,sv,uv,Yh,Xy⟩:=hR.Vm;have ZW:=Xy.ZX;have hlen:=ZW.len;obtain⟨a,cap,rfl,Oy,tS,-,-⟩:=id ZW;obtain⟨a1,run1,yU,_⟩:=RT TZ a T.ZX.length cap k Zo;obtain⟨a2,mB,yV,_⟩:=Sk TZ a T.ZX.length cap (k+1) Zo Oy;rw[show(((k+1:Nat):Int))=(k:Int)+1 by omega]at mB
 have wT:Hid (∀w',Below w w w'→Row w' 105 (.slice a1 k cap) k ((T.ZX.take k).flatMap Zb)):=fun w' h=>by
  have:=yU w' _ Zo (Ta _) (ZW.below h)
  rwa[IP Zb 4 (fun _=>rfl)]at this
 have BF:Hid (∀w',Below w w w'→Row w' 105 (.slice a2 (T.ZX.length-(k+1)) (cap-(k+1))) (T.ZX.length-(k+1)) ((T.ZX.drop (k+1)).flatMap Zb)):=fun w' h=>by
  have:=yV w' _ (Ta _) (ZW.below h)
  rwa[IM Zb 4 (fun _=>rfl)]at this
 have EJ:Hid (((T.ZX.take k).flatMap Zb).length=k*4):=by show _=_;rw[Ta,SC,Nat.min_eq_left Zo]
 have q9:Hid (((T.ZX.drop (k+1)).flatMap Zb).length=(T.ZX.length-(k+1))*4):=by show _=_;rw[Ta,QG]
 have HL3:Hid ((T.ZX.take k++T.ZX.drop (k+1)).length=k+(T.ZX.length-(k+1))):=by show _=_;rw[UC,SC,QG,Nat.min_eq_left Zo]
 have HC:Hid (∀w',Below w w w'→w'.cell? ⟨b,2,none⟩=some (.slice a T.ZX.length cap)):=fun w' h=>(h.cell (p:=⟨b,2,none⟩) hb).trans (ch Yh 2)
 have pE:k+1≤T.ZX.length:=hk;clear hR Xy Yh ZW yU yV Ru hh hs;generalize T.ZX.length=N at *;have IV:=HR.o.Yv 2;have HFZ:Hid (∀w',Below w w w'→w'.frozen? ⟨b,2,none⟩=false):=fun w' h=>(h.frozen (p:=⟨b,2,none⟩) hb).trans IV
 clear IV;go_enter func100,ntmps100;go_wp2_with fail
 have aq:Hid (∀w',Below (w.heap.size+1) (w.alloc (.cells (Qh 0 0 0 0 0) 158)) w'→Below w w w'):=fun w' h=>(Z' w _).trans (h.mono Zo)
 refine(CS.o _ (Z' _ _)).mono ?_;rintro e w1 ⟨rfl,YV⟩;have WO:Below (w.heap.size+1) (w.alloc (.cells (Qh 0 0 0 0 0) 158)) w1:=by have:=YV;rwa[World.size_alloc]at this
 have Rn:=WO.size;rw[World.size_alloc]at Rn;have gZ:IntKind.i64.wrap ((k:Int)+1)=(k:Int)+1:=SZ _ Zo;have zJ:=HC.o _ (aq.o _ WO);clear YV;go_wp2_with fail
 go_region_law (first|(refine Y9 Zr (.const (.slice none 0 0)) (.tmp 18) 49 Zr (w.heap.size+1) TZ (.slice none 0 0) 0 [] Zr (TH _ _ _ _) (.slice a1 k cap) k ((T.ZX.take k).flatMap Zb) Zr ?_ EJ.o (Tb _) Zo Zo ?_ ?_;(exact wT.o _ (aq.o _ wZ));(exact PJ (Nat.le_of_eq (World.size_alloc w _).symm) (Below.size wZ));intro v1 w2 zX N7;have Yk:Below (w.heap.size+1) (w.alloc (.cells (Qh 0 0 0 0 0) 158)) w2:=Below.grown wZ N7.o (PJ (Nat.le_of_eq (World.size_alloc w _).symm) (Below.size wZ)) (YG (TH w1 _ 105 4));have c2:=HC.o _ (aq.o _ Yk))|(refine Y9 Zr (.tmp 19) (.tmp 26) 49 Zr (w.heap.size+1) TZ v1 (0+k) ([]++(T.ZX.take k).flatMap Zb) Zr ?_ (.slice a2 (N-(k+1)) (cap-(k+1))) (N-(k+1)) ((T.ZX.drop (k+1)).flatMap Zb) Zr ?_ q9.o (Tb _) Zo Zo ?_ ?_;(first|exact zX.o|exact WY zX.o);(exact BF.o _ (aq.o _ wZ));(exact PJ (Nat.le_of_eq (World.size_alloc w _).symm) (Below.size wZ));intro v2 w3 M7 JL;have V6:Below (w.heap.size+1) (w.alloc (.cells (Qh 0 0 0 0 0) 158)) w3:=Below.grown wZ JL.o (PJ (Nat.le_of_eq (World.size_alloc w _).symm) (Below.size wZ)) (YG zX.o);have c3:=HC.o _ (aq.o _ V6);have f3:=HFZ.o _ (aq.o _ V6);obtain⟨va,vc,hv⟩:=Wl M7.o;subst hv))
 all_goals
  have d0:w3.cell? ⟨w,0,none⟩=some (.int .i64 0):=(TE V6 0).1;have d1:w3.cell? ⟨w,1,none⟩=some (.int .i64 0):=(TE V6 1).1;have d2:w3.cell? ⟨w,2,none⟩=some (.int .i64 0):=(TE V6 2).1;have d3:w3.cell? ⟨w,3,none⟩=some (.int .i64 0):=(TE V6 3).1;have d4:w3.cell? ⟨w,4,none⟩=some (.int .u32 0):=(TE V6 4).1;have z0:=(TE V6 0).2;have z1:=(TE V6 1).2;have z2:=(TE V6 2).2;have z3:=(TE V6 3).2;have z4:=(TE V6 4).2;have WA:¬b=w.heap.size:=by omega
  have hne2:¬w.heap.size=b:=by omega
  go_wp2;have ZW:=Row.Z4 M7.o;rw[IC,←O7,PA]at ZW;have D7:ZI w3 b T:=HR.o.below (aq.o _ V6);have MF:k+(N-(k+1))=(T.ZX.take k++T.ZX.drop (k+1)).length:=by rw[HL3.o]
  rw[MF]at ZW;have x9:=D7.KL ZW;rw[←MF]at x9;refine Vr (v:=VN ⟨2,p,n,0,0⟩) (by simp[results,results100,go_sem,VN,d0,d1,d2,d3,d4]) rfl ⟨rfl,?_,?_⟩
  ·rw[HE.o];have ht:=(SJ.Z8 V6);exact((((x9.KM (ht.set _ _) 0 _).KM ((ht.set _ _).set _ _) 1 _).KM (((ht.set _ _).set _ _).set _ _) 2 _).KM ((((ht.set _ _).set _ _).set _ _).set _ _) 3 _).KM (((((ht.set _ _).set _ _).set _ _).set _ _).set _ _) 4 _
  ·exact(((((((Fr.Z8 _ (aq.o _ V6)).setAt _ _).setCell (WQ (Zq _)) _).setCell (WQ (Zq _)) _).setCell (WQ (Zq _)) _).setCell (WQ (Zq _)) _).setCell (WQ (Zq _)) _)
structure KX(w:World)(g:Nat)(nm nk:List UInt8)(w':World):Prop where
 c1:w'.cell? ⟨w,4,none⟩=some (.string (str nm))
 c2:w'.cell? ⟨g,1,none⟩=some (.string (str nk))
 Za:Below w w w'
 s1:w.heap.size<w'.heap.size
 s2:g<w'.heap.size
section
variable {w w1 w2:World} {g:Nat} {nm nk:List UInt8}
def KX.below(h:KX w g nm nk w1)(hb:Below w1 w1 w2):KX w g nm nk w2:=
 ⟨(hb.cell (p:=⟨w,4,none⟩) h.s1).trans h.c1,(hb.cell (p:=⟨g,1,none⟩) h.s2).trans h.c2,h.Za.trans (hb.mono h.Za.size),Od h.s1 hb.size,Od h.s2 hb.size⟩
def KX.drew(h:KX w g nm nk w1):KX w g nm nk w1.drew:=h.below (YE _ _).drew
def KX.all(h:KX w g nm nk w1):w1.cell? ⟨w,4,none⟩=some (.string (str nm))∧w1.cell? ⟨g,1,none⟩=some (.string (str nk))∧KX w g nm nk w1:=⟨h.c1,h.c2,h⟩
def KX.mk'{y0:Int}(h1:Below w w w1)(h2:w.heap.size<w1.heap.size)(h3:w1.cell? ⟨w,4,none⟩=some (.string (str nm))){e:TypeId}:KX w w1 nm nk (w1.alloc (.cells (Q6 y0 (str nk)) e)):=by
 refine⟨?_,?_,h1.alloc h1.size _,by simp;omega,by simp⟩
 ·rw[(Z' w1 _).cell (p:=⟨w,4,none⟩) h2];exact h3
 ·exact ch (Z9 w1 _) 1
end
def y_(b:Nat)(T:ZK)(o:Op)(sa ba:Option Addr)(sl sc bl bc:Nat)(w:World)(hR:ZI w b T)(hT:Xn w)(UD:o.name.length<9223372036854775807)(Sy:∀x∈T.Zu,x.name.length<9223372036854775807)(hk:o.kind=2)(Co:1≤o.peer∧o.peer≤8) :
  Calls prog 96 (Qi (some ⟨b,0,none⟩) (Jr o sa sl sc ba bl bc)) w fun e w'=>e = .returned (.int .i64 (T.XQ o))∧Below w w w':=by
 have CA:=Zh (fun(w1:World) (h:Below w w w1)=>R9 b T o.peer w1 (hR.below h));have hb:=hR.lt;obtain⟨kd,p,n,q,nm,ss⟩:=o;dsimp only at *;subst hk
 have HJ:Hid (T.XQ ⟨2,p,n,q,nm,ss⟩=if 0≤T.Xw p then 9 else if !may nm then 12 else if T.Zu.any (fun x=>decide (key x.name=key nm))then 9 else 0):=by
  show _=_;unfold ZK.XQ;rw[Z3 Zi,Z3 TY,ZU rfl]
 have CM:Hid (∀w1,Below w w w1→Calls prog 120 #[.string (str nm)] w1 fun e w'=>e = .returned (.bool (may nm))∧Below w1 w1 w'):=fun w1 h=>yN (str nm) w1 (by rw[MV];exact UD) (Utf8Tabs_below hT h)
 have CK:Hid (∀(s:List UInt8) w1,s.length<9223372036854775807→Below w w w1→Calls prog 121 #[.string (str s)] w1 fun e w'=>e = .returned (.string (str (key s)))∧Below w1 w1 w'):=fun s w1 hs h=>mi (str s) w1 (by rw[MV];exact hs) (Utf8Tabs_below hT h)
 have hnmL:=UD;obtain⟨pv,sv,uv,Yh,Xy⟩:=hR.Vm;have hlen:=Xy.Zu.len;have vJ:Hid (∀w',Below w w w'→w'.cell? ⟨b,0,none⟩=some pv):=fun w' h=>(h.cell (p:=⟨b,0,none⟩) hb).trans (ch Yh 0)
 have HP:Hid (∀w',Below w w w'→Row w' 103 pv T.Zu.length (T.Zu.flatMap Yr)):=fun w' h=>Xy.Zu.below h
 obtain⟨pa,pc,rfl,_⟩:=id Xy.Zu;have HPN:=Zh Sy;generalize T.XQ ⟨2,p,n,q,nm,ss⟩=jn at *;generalize T.Xw p=at' at *;clear hR UD Xy Yh Sy;generalize T.Zu=P at *;by_cases hj:0≤at'
 ·have HF:Hid (jn=9):=by show _=_;rw[HJ.o,ZU hj]
  go_enter func96,ntmps96;go_wp2_with (go_at_call 48;refine(CA.o _ (Z' _ _)).mono ?_;rintro e w1 ⟨rfl,YV⟩;obtain⟨Ls,IV⟩:=Sv YV;have PF:=YV.size)
  exact dS
 cases hm:may nm
 ·have HF:Hid (jn=12):=by show _=_;rw[HJ.o,Z3 hj,hm];rfl
  rw[hm]at CM;clear hm;go_enter func96,ntmps96;go_wp2_with (first|(go_at_call 48;refine(CA.o _ (Z' _ _)).mono ?_;rintro e w1 ⟨rfl,YV⟩;obtain⟨Ls,IV⟩:=Sv YV;have PF:=YV.size;have PV:=(Z' w _).trans (YV.mono Zi))|(go_at_call 120;refine(CM.o _ PV).mono ?_;rintro e w2 ⟨rfl,Y7⟩))
  go_ret;exact⟨dr HF.o.symm,PV.trans (Y7.mono PV.size)⟩
 have HJ2:Hid (jn=if P.any (fun x=>decide (key x.name=key nm))then 9 else 0):=by show _=_;rw[HJ.o,Z3 hj,hm];rfl
 rw[hm]at CM;clear hm HJ;go_enter func96,ntmps96;go_wp2_with (first|(go_at_call 48;refine(CA.o _ (Z' _ _)).mono ?_;rintro e w1 ⟨rfl,YV⟩;obtain⟨Ls,IV⟩:=Sv YV;have PF:w.heap.size<w1.heap.size:=Od Zi YV.size;have PV:=(Z' w _).trans (YV.mono Zi);have xU:=YV.cell (p:=⟨w,4,none⟩) Zi;simp at xU)|(go_at_call 120;refine(CM.o _ PV).mono ?_;rintro e w2 ⟨rfl,Y7⟩;have Yk:=PV.trans (Y7.mono PV.size);have zJ:=vJ.o _ Yk;have Hx:=(Y7.cell (p:=⟨w,4,none⟩) PF).trans xU;have TF:=Od PF Y7.size))
 clear zJ;go_loopw [43] (fun i w'=>∃k:Nat,k≤P.length∧i = .int .i64 k∧Below w w w'∧w.heap.size<w'.heap.size∧w'.cell? ⟨w,4,none⟩=some (.string (str nm))∧Hid (∀j (h:j<P.length),j<k→key P[j].name≠key nm)) (fun i _=>P.length-(intOf i).toNat)
 case atStart=>exact⟨0,Tv _,rfl,Yk,TF,Hx,fun j h hj=>by omega⟩
 case round=>
  obtain⟨k,hk,rfl,WO,T8,AQ,N_⟩:=hrel;by_cases Vz:k<P.length
  ·obtain⟨g,off,e1,hc⟩:=sj (HP.o wr WO) Zo;subst e1;obtain⟨d0,d1⟩:=hc k P[k] (U' Vz);have hnl:=HPN.o P[k] (O6 Vz)
   have HIN:Hid (key P[k].name=key nm→jn=9):=by
    intro h;rw[HJ2.o,ZU];rw[List.any_eq_true];exact⟨P[k],O6 Vz,by simpa using h⟩
   have gJ:Hid (key P[k].name≠key nm→∀j (h:j<P.length),j<k+1→key P[j].name≠key nm):=fun h j hj H7=>by
    by_cases e:j=k
    ·subst e;exact h
    ·exact N_.o j hj Zo
   clear hc;generalize P[k]=y at *;obtain⟨y0,nk⟩:=y;dsimp only at d0 d1 HIN gJ hnl;have CK1:=Zh (fun w2 (h:Below w w w2)=>CK.o nk w2 hnl h);have CK2:=Zh (fun w2 (h:Below w w w2)=>CK.o nm w2 hnmL h);have hkx:=KX.mk' (nk:=nk) (y0:=y0) (e:=103) WO T8 AQ;by_cases Ru:key nk=key nm
   ·have HF:=Zh (HIN.o Ru);rw[Ru]at CK1;clear Ru;go_wp2_with fail
    go_region_held3 (fun w'=>w'.cell? ⟨w,4,none⟩=some (.string (str nm))∧w'.cell? ⟨wr,1,none⟩=some (.string (str nk))∧KX w wr nm nk w') (first|((with_reducible apply KX.all);with_reducible assumption)|((with_reducible apply KX.all);(with_reducible apply KX.drew);with_reducible assumption)|go_keep) (first|(go_at_call 121;go_split_ands;(with_reducible refine Calls.mono (CK1.o _ ?_) ?_);(with_reducible apply KX.Za);(with_reducible assumption);rintro e w2 ⟨rfl,Y7⟩;have kx2:=KX.below WE Y7)|(go_at_call 121;go_split_ands;(with_reducible refine Calls.mono (CK2.o _ ?_) ?_);(with_reducible apply KX.Za);(with_reducible assumption);rintro e w3 ⟨rfl,WM⟩;have kx3:=KX.below WE WM))
    all_goals(go_wp2;go_ret;exact⟨dr HF.o.symm,KX.Za WE⟩)
   ·have HF:=Zh (gJ.o Ru);have e3:((str (key nk)).toList==(str (key nm)).toList)=false:=by rw[Wz,ByteArray.toList_eq,ByteArray.toList_eq];exact Ru
    clear Ru;go_wp2_with fail
    go_region_held3 (fun w'=>w'.cell? ⟨w,4,none⟩=some (.string (str nm))∧w'.cell? ⟨wr,1,none⟩=some (.string (str nk))∧KX w wr nm nk w') (first|((with_reducible apply KX.all);with_reducible assumption)|((with_reducible apply KX.all);(with_reducible apply KX.drew);with_reducible assumption)|go_keep) (first|(go_at_call 121;go_split_ands;(with_reducible refine Calls.mono (CK1.o _ ?_) ?_);(with_reducible apply KX.Za);(with_reducible assumption);rintro e w2 ⟨rfl,Y7⟩;have kx2:=KX.below WE Y7)|(go_at_call 121;go_split_ands;(with_reducible refine Calls.mono (CK2.o _ ?_) ?_);(with_reducible apply KX.Za);(with_reducible assumption);rintro e w3 ⟨rfl,WM⟩;have kx3:=KX.below WE WM))
    all_goals
     go_wp2;go_roundw
     case rel=>exact⟨k+1,Zo,Zn,KX.Za WE,KX.s1 WE,KX.c1 WE,HF.o⟩
     case measure=>simp[intOf];omega
  ·have HF:Hid (jn=0):=by
    show _=_;rw[HJ2.o,Z3];rw[List.any_eq_true];rintro⟨x,hx,Nv⟩;obtain⟨j,hj,rfl⟩:=List.getElem_of_mem hx;exact N_.o j hj Zo (by simpa using Nv)
   go_wp2;go_ret;exact⟨dr HF.o.symm,WO⟩
def Bw(b:Nat)(T:ZK)(o:Op)(s:V4)(sa ba ca:Option Addr)(sl sc bl bc cc:Nat)(w:World)(hR:ZI w b T)(hk:5≤o.kind∧o.kind≤12) :
  Calls prog 123 (Je (some ⟨b,0,none⟩) (Jr o sa sl sc ba bl bc) (Qq s.num s.own ca s.ss.length cc s.ZJ)) w fun e w'=>e = .returned (.int .i64 (T.Xc o s))∧Below w w w':=by
 by_cases h1:o.kind=5∨o.kind=8∨o.kind=9
 ·exact Bx b T o s sa ba ca sl sc bl bc cc w h1
 by_cases h2:o.kind=6
 ·exact LG b T o s sa ba ca sl sc bl bc cc w hR h2
 by_cases h3:T.YZ o.peer o.source<0
 ·exact Es b T o s sa ba ca sl sc bl bc cc w hR Zo h3
 ·exact Gr b T o s sa ba ca sl sc bl bc cc w hR Zo Zo
def zg(b:Nat)(T:ZK)(o:Op)(sa ba:Option Addr)(sc bl bc:Nat)(w:World)(hR:ZI w b T)(hk:¬(o.kind=2∧1≤o.peer∧o.peer≤8))
  (ZW:XG w (.slice sa o.ZG.length sc) o.ZG.length (bd o.ZG)) :
  Calls prog 96 (Qi (some ⟨b,0,none⟩) (Jr o sa o.ZG.length sc ba bl bc)) w fun e w'=>e = .returned (.int .i64 (T.XQ o))∧Below w w w':=by
 have CA:=Zh (fun(w1:World) (h:Below w w w1)=>R9 b T o.peer w1 (hR.below h));have CB:=Zh (fun(w1:World) (h:Below w w w1)=>VJ b T o.source w1 (hR.below h));have CP:=Zh (fun(w1:World) (h:Below w w w1)=>Gq b T o (T.YL o.source) sa ba sc bl bc w1 (hR.below h) (ZW.below h));have HR:=Zh hR;have hb:=hR.lt
 have HW:Hid (T.XQ o=if o.kind<2∨12<o.kind then 4
 else if o.peer<1∨8<o.peer then 5
 else if o.kind=2 then
  (if 0≤T.Xw o.peer then 9 else if !may o.name then 12 else if T.Zu.any (fun x=>decide (key x.name=key o.name))then 9 else 0)
 else if T.Xw o.peer<0 then 8
 else if o.kind=3 then 0
 else if o.source<1∨8<o.source then 5
 else if o.kind=4 then T.Tn o (T.YL o.source)
 else if T.YL o.source<0 then 8
 else T.Xc o (T.VU o.source)):=rfl
 have HS:Hid (0≤T.YL o.source→∃k:Nat,k<T.Yb.length∧T.YL o.source=k∧T.VU o.source=T.Yb.getD k Uv):=fun h=>by
  obtain⟨k,hk,e,-,-⟩:=Xx h;refine⟨k,hk,e,?_⟩;unfold ZK.VU;rw[show T.YL o.source=k from e,Wi]
 have CS:=Zh (fun(s:V4) (ca:Option Addr) (cc:Nat) (w1:World) (h:Below w w w1) (hk:5≤o.kind∧o.kind≤12)=>Bw b T o s sa ba ca o.ZG.length sc bl bc cc w1 (hR.below h) hk);obtain⟨kd,p,n,q,nm,ss⟩:=o;dsimp only at *;clear hR ZW;have HAT:Hid (T.Xw p<0∨0≤T.Xw p):=by show _∨_;omega
 generalize T.XQ ⟨kd,p,n,q,nm,ss⟩=wv at *;generalize T.Xw p=pat at *;generalize T.Tn ⟨kd,p,n,q,nm,ss⟩ (T.YL n)=pb at *;by_cases h1:kd<2
 ·have HF:Hid (wv=4):=by show _=_;rw[HW.o,ZU (WQ h1)]
  exact ed
 by_cases h2:12<kd
 ·have HF:Hid (wv=4):=by show _=_;rw[HW.o,ZU (WG h2)]
  exact ed
 by_cases h3:p<1
 ·have HF:Hid (wv=5):=by show _=_;rw[HW.o,Z3 Zo,ZU (WQ h3)]
  exact ed
 by_cases h4:8<p
 ·have HF:Hid (wv=5):=by show _=_;rw[HW.o,Z3 Zo,ZU (WG h4)]
  exact ed
 have AU:kd≠2:=fun h=>hk ⟨h,Zo,Zo⟩
 have HK2:=Zh AU;have b2:(kd==2)=false:=by rw[Wz];exact AU
 have BF:Hid (wv=if pat<0 then 8 else if kd=3 then 0 else if n<1∨8<n then 5 else if kd=4 then pb else if T.YL n<0 then 8 else T.Xc ⟨kd,p,n,q,nm,ss⟩ (T.VU n)):=by
  show _=_;rw[HW.o,Z3 Zo,Z3 Zo,Z3 AU]
 clear HW hk AU;by_cases h5:pat<0
 ·have HF:Hid (wv=8):=by show _=_;rw[BF.o,ZU h5]
  have b5:decide (0≤pat)=false:=by simpa using h5
  exact dW
 have h5p:0≤pat:=by omega
 by_cases h6:kd=3
 ·subst h6;have HF:Hid (wv=0):=by show _=_;rw[BF.o,Z3 h5,ZU rfl]
  exact dW
 have b3:(kd==3)=false:=by rw[Wz];exact h6
 by_cases h7:n<1
 ·have HF:Hid (wv=5):=by show _=_;rw[BF.o,Z3 h5,Z3 h6,ZU (WQ h7)]
  clear h6;exact dW
 by_cases h8:8<n
 ·have HF:Hid (wv=5):=by show _=_;rw[BF.o,Z3 h5,Z3 h6,ZU (WG h8)]
  clear h6;exact dW
 have nr:Hid (wv=if kd=4 then pb else if T.YL n<0 then 8 else T.Xc ⟨kd,p,n,q,nm,ss⟩ (T.VU n)):=by
  show _=_;rw[BF.o,Z3 h5,Z3 h6,Z3 Zo]
 clear BF;by_cases h9:kd=4
 ·subst h9;have HF:Hid (wv=pb):=by show _=_;rw[nr.o,ZU rfl]
  clear h6 HS nr;generalize T.YL n=sat at *;go_enter func96,ntmps96;go_wp2_with (first|(go_at_call 48;(with_reducible refine(CA.o _ (Z' _ _)).mono ?_);rintro e w1 ⟨rfl,YV⟩;obtain⟨Ls,IV⟩:=Sv YV;have PF:w.heap.size<w1.heap.size:=Od Zi YV.size;have PV:=(Z' w _).trans (YV.mono Zi))|(go_at_call 49;(with_reducible refine(CB.o _ PV).mono ?_);rintro e w2 ⟨rfl,Y7⟩;obtain⟨hcl2,hfz2⟩:=Sv Y7;have TF:=Od PF Y7.size;have Yk:=PV.trans (Y7.mono PV.size))|(go_at_call 122;(with_reducible refine(CP.o _ Yk).mono ?_);rintro e w3 ⟨rfl,WM⟩))
  go_ret;exact⟨dr HF.o.symm,Yk.trans (WM.mono Yk.size)⟩
 have b4:(kd==4)=false:=by rw[Wz];exact h9
 have fK:5≤kd∧kd≤12:=by have:=HK2.o;omega
 by_cases GC:T.YL n<0
 ·have HF:Hid (wv=8):=by show _=_;rw[nr.o,Z3 h9,ZU GC]
  clear h6 h9 HS nr;generalize T.YL n=sat at *;go_enter func96,ntmps96;go_wp2_with (first|(go_at_call 48;(with_reducible refine(CA.o _ (Z' _ _)).mono ?_);rintro e w1 ⟨rfl,YV⟩;obtain⟨Ls,IV⟩:=Sv YV;have PF:w.heap.size<w1.heap.size:=Od Zi YV.size;have PV:=(Z' w _).trans (YV.mono Zi))|(go_at_call 49;(with_reducible refine(CB.o _ PV).mono ?_);rintro e w2 ⟨rfl,Y7⟩;obtain⟨hcl2,hfz2⟩:=Sv Y7;have TF:=Od PF Y7.size;have Yk:=PV.trans (Y7.mono PV.size)))
  go_ret;exact⟨dr HF.o.symm,Yk⟩
 ·obtain⟨k,Vz,Ru,hsd⟩:=HS.o Zo;have HF:Hid (wv=T.Xc ⟨kd,p,n,q,nm,ss⟩ (T.Yb.getD k Uv)):=by show _=_;rw[nr.o,Z3 h9,Z3 GC,hsd]
  rw[Ru]at CB;clear h6 h9 GC nr HS CP Ru hsd;go_enter func96,ntmps96;go_wp2_with fail
  (with_reducible refine(CA.o _ (Z' _ _)).mono ?_)
  rintro e w1 ⟨rfl,YV⟩;obtain⟨Ls,IV⟩:=Sv YV;have PF:w.heap.size<w1.heap.size:=Od Zi YV.size;have PV:=(Z' w _).trans (YV.mono Zi);go_wp2_with fail
  (with_reducible refine(CB.o _ PV).mono ?_)
  rintro e w2 ⟨rfl,Y7⟩;obtain⟨hcl2,hfz2⟩:=Sv Y7;have TF:=Od PF Y7.size;have Yk:=PV.trans (Y7.mono PV.size);obtain⟨pv,sv,uv,Yh,Xy⟩:=(HR.o.below Yk).Vm;obtain⟨P,S7,ZW,Ty⟩:=Xy.Yb;have Vz:k<P.length:=by rw[←S7,Te]at Vz;exact Vz
  have hlen:=ZW.len;have c1:=ch Yh 1;have HX:Hid (T.Yb.getD k Uv=P[k].1):=by show _=_;rw[←S7,T5 Vz]
  have hr:=Ty P[k] (O6 Vz);obtain⟨pa,pc,rfl,-,-⟩:=id ZW;obtain⟨g,off,e1,hc⟩:=R6 ZW Zo;subst e1;obtain⟨d0,d1,d2,d3⟩:=hc k P[k] (U' Vz);obtain⟨ca,cc,hv,-,-⟩:=id hr;rw[hv]at d2;have CS2:=Zh (fun(w1:World) (h:Below w w w1)=>CS.o P[k].1 ca cc w1 h fK);have hb2':=Zh Y7;have hb1':=Zh YV;have kr:=Zh Yk;clear hc hv hr Ty Yh Xy S7 ZW YV Y7 PV Yk;generalize P[k]=x at *;obtain⟨⟨x0,x1,x2,x3⟩,x4⟩:=x;dsimp only at d0 d1 d2 d3 HX CS2;go_wp2_with fail
  go_still_tail 9,X6
  go_wp2_with (go_at_call 123;(with_reducible refine(CS2.o _ (Below.drew kr.o)).mono ?_);rintro e w3 ⟨rfl,WM⟩)
  go_ret;exact⟨dr (by rw[HF.o,HX.o]),kr.o.drew.trans (WM.mono kr.o.size)⟩
def VV(b:Nat)(T:ZK)(o:Op)(sa ba:Option Addr)(sc bl bc:Nat)(w:World)(hR:ZI w b T)(hT:Xn w)(UD:o.name.length<9223372036854775807)(Sy:∀x∈T.Zu,x.name.length<9223372036854775807)
  (ZW:XG w (.slice sa o.ZG.length sc) o.ZG.length (bd o.ZG)) :
  Calls prog 96 (Qi (some ⟨b,0,none⟩) (Jr o sa o.ZG.length sc ba bl bc)) w fun e w'=>e = .returned (.int .i64 (T.XQ o))∧Below w w w':=by
 by_cases h:o.kind=2∧1≤o.peer∧o.peer≤8
 ·exact y_ b T o sa ba _ sc bl bc w hR hT UD Sy h.1 h.2
 ·exact zg b T o sa ba sc bl bc w hR h ZW
def Below.alloc'{B:Nat}{a w:World}(h:Below B a w)(hB:B≤a.heap.size)(o:Obj):Below B a (w.alloc o):=h.alloc (PJ hB h.size) o
def Below.call{B:Nat}{a w w2:World}(h:Below B a w)(hB:B≤a.heap.size)(hb:Below w w w2):Below B a w2:=h.trans (hb.mono (PJ hB h.size))
def le2(w:World)(A B:Obj):w.heap.size+2≤((w.alloc A).alloc B).heap.size:=by simp
def Gy(b:Nat)(T:ZK)(x:Vd)(w:World)(hR:ZI w b T)(hs:0≤T.YL x.source)(hw:0≤x.want∧x.want<(T.VU x.source).ss.length) :
  Calls prog 99 (Qi (some ⟨b,0,none⟩) (Ql x.peer x.source x.want x.ZV)) w fun e w'=>e = .returned (VN (T.ask x))∧Below w w w':=by
 obtain⟨k,Vz,Ru,-,-⟩:=Xx hs;have Ru:T.YL x.source=k:=Ru;have CB:=Zh (fun(w1:World) (h:Below w w w1)=>VJ b T x.source w1 (hR.below h));rw[Ru]at CB;have hb:=hR.lt;have HSD:Hid (T.VU x.source=T.Yb.getD k Uv):=by show _=_;unfold ZK.VU;rw[Ru,Wi]
 have HA:Hid (T.ask x=⟨9,(T.VU x.source).own,(T.VU x.source).num,0,(T.VU x.source).ss.getD x.want.toNat 0⟩):=rfl;obtain⟨j,hj⟩:=RV hw.1;obtain⟨pv,sv,uv,Yh,Xy⟩:=hR.Vm;obtain⟨P,S7,ZW,Ty⟩:=Xy.Yb;have Vz:k<P.length:=by rw[←S7,Te]at Vz;exact Vz
 have hlen:=ZW.len;have c1:=ch Yh 1;have HX:Hid (T.Yb.getD k Uv=P[k].1):=by show _=_;rw[←S7,T5 Vz]
 have hr:=Ty P[k] (O6 Vz);obtain⟨pa,pc,rfl,-,-⟩:=id ZW;obtain⟨g,off,e1,hc⟩:=R6 ZW Zo;subst e1;obtain⟨d0,d1,d2,d3⟩:=hc k P[k] (U' Vz);rw[hj,HSD.o,HX.o]at hw;have RZ:j<P[k].1.ss.length:=by omega
 obtain⟨g2,yD,cap2,Ki,hlc,tS,ky,Yp⟩:=M0 hr Zo;have hx:=Yp j RZ;have hl2:=hr.len;rw[Ki]at d2;have HT:Hid (T.ask x=⟨9,P[k].1.own,P[k].1.num,0,P[k].1.ss.getD j 0⟩):=by show _=_;rw[HA.o,HSD.o,HX.o,hj];rfl
 have hg:g<w.heap.size:=by
  rcases Nat.lt_or_ge g w with h|h
  ·exact h
  ·simp[World.cell?,DT h]at d0
 clear hR hs Yp hc hr Ty Yh Xy S7 ZW HSD HX Ru HA hw;generalize T.ask x=TA at *;obtain⟨x0,x1,x2,x3⟩:=x;dsimp only at *;subst hj;generalize P[k].1.ss.getD j 0=xx at *;generalize P[k].1.ss.length=xl at *;generalize P[k].1.own=xo at *;generalize P[k].1.num=xn at *;generalize P[k].1.ZJ=xm at *;generalize P[k].2=xv at *;generalize P.length=N at *
 have Zv:Hid (∀w',Below (w.heap.size+2) ((w.alloc (.cells (Ql x0 x1 j x3) 105)).alloc (.cells (Qh 0 0 0 0 0) 158)) w' →
   w'.cell? ⟨b,1,none⟩=some (.slice (some ⟨g,off,none⟩) N pc)∧w'.cell? ⟨w,1,none⟩=some (.int .i64 x1)∧w'.cell? ⟨g,off+k*4,none⟩=some (.int .i64 xn)∧w'.cell? ⟨g,off+k*4+1,none⟩=some (.int .i64 xo)∧w'.cell? ⟨g,off+k*4+2,none⟩=some (.slice (some ⟨g2,yD,none⟩) xl cap2)∧w'.cell? ⟨g,off+k*4+3,none⟩=some (.bool xm)∧Below (w.heap.size+2) ((w.alloc (.cells (Ql x0 x1 j x3) 105)).alloc (.cells (Qh 0 0 0 0 0) 158)) w'):=fun w' h=>by
  have h1:Below w w w':=(((YE _ _).alloc (Zq _) _).alloc Zi _).trans (h.mono Zo);exact⟨(h1.cell (p:=⟨b,1,none⟩) hb).trans c1,(h.cell (p:=⟨w,1,none⟩) TQ).trans (ch (ao w _ _).1 1),(h1.cell (p:=⟨g,off+k*4,none⟩) hg).trans d0,(h1.cell (p:=⟨g,off+k*4+1,none⟩) hg).trans d1,(h1.cell (p:=⟨g,off+k*4+2,none⟩) hg).trans d2,(h1.cell (p:=⟨g,off+k*4+3,none⟩) hg).trans d3,h⟩
 have KW:Hid (∀w',Below (w.heap.size+2) ((w.alloc (.cells (Ql x0 x1 j x3) 105)).alloc (.cells (Qh 0 0 0 0 0) 158)) w'→Below w w w'):=fun w' h=>(((YE _ _).alloc (Zq _) _).alloc Zi _).trans (h.mono Zo)
 have JP:Hid (∀w',Below (w.heap.size+2) ((w.alloc (.cells (Ql x0 x1 j x3) 105)).alloc (.cells (Qh 0 0 0 0 0) 158)) w'→w'.cell? ⟨g2,yD+j,none⟩=some (.int .u32 xx)∧w'.cell? ⟨w,2,none⟩=some (.int .i64 j)∧(w'.cell? ⟨w.heap.size+1,0,none⟩=some (.int .i64 0)∧w'.cell? ⟨w.heap.size+1,1,none⟩=some (.int .i64 0)∧w'.cell? ⟨w.heap.size+1,2,none⟩=some (.int .i64 0)∧w'.cell? ⟨w.heap.size+1,3,none⟩=some (.int .i64 0)∧w'.cell? ⟨w.heap.size+1,4,none⟩=some (.int .u32 0)) ∧
   (∀o,w'.frozen? ⟨w.heap.size+1,o,none⟩=false)):=fun w' h=>by
  have h1:Below w w w':=KW.o _ h;have hB:=fun o=>(h.cell (p:=⟨w.heap.size+1,o,none⟩) TQ).trans (ch (ao w _ _).2 o)
  refine⟨(h1.cell (p:=⟨g2,yD+j,none⟩) ky).trans hx,(h.cell (p:=⟨w,2,none⟩) TQ).trans (ch (ao w _ _).1 2),⟨hB 0,hB 1,hB 2,hB 3,hB 4⟩,fun o=>(h.frozen (p:=⟨w.heap.size+1,o,none⟩) TQ).trans ?_⟩;simp only[World.frozen?,(ao w _ _).2];simp
 have K0:Below (w.heap.size+2) ((w.alloc (.cells (Ql x0 x1 j x3) 105)).alloc (.cells (Qh 0 0 0 0 0) 158)) ((w.alloc (.cells (Ql x0 x1 j x3) 105)).alloc (.cells (Qh 0 0 0 0 0) 158)):=YE _ _;go_enter func99,ntmps99;go_wp2_with fail
 go_region_held3 (fun w'=>w'.cell? ⟨b,1,none⟩=some (.slice (some ⟨g,off,none⟩) N pc)∧w'.cell? ⟨w,1,none⟩=some (.int .i64 x1)∧w'.cell? ⟨g,off+k*4,none⟩=some (.int .i64 xn)∧w'.cell? ⟨g,off+k*4+1,none⟩=some (.int .i64 xo)∧w'.cell? ⟨g,off+k*4+2,none⟩=some (.slice (some ⟨g2,yD,none⟩) xl cap2)∧w'.cell? ⟨g,off+k*4+3,none⟩=some (.bool xm)∧Below (w.heap.size+2) ((w.alloc (.cells (Ql x0 x1 j x3) 105)).alloc (.cells (Qh 0 0 0 0 0) 158)) w')
  (first|(exact Zv.o _ WE)|(exact Zv.o _ (Below.drew WE))|(exact Zv.o _ (Below.alloc' WE (le2 _ _ _) _))|(exact Zv.o _ (Below.alloc' (Below.drew WE) (le2 _ _ _) _))|(exact Zv.o _ (Below.setCell (Below.setCell (Below.setCell (Below.setCell WE Zi _) Zi _) Zi _) Zi _))|(exact Zv.o _ (Below.setCell (Below.setCell (Below.setCell (Below.setCell (Below.drew WE) Zi _) Zi _) Zi _) Zi _))|go_keep)
  (first|(go_at_call 49;go_split_ands;(with_reducible refine Calls.mono (CB.o _ (KW.o _ WE)) ?_);rintro e w2 ⟨rfl,Y7⟩;have Yk:=Below.call WE (le2 _ _ _) Y7;obtain⟨Ls,IV⟩:=Sv Y7;have TF:=Y7.size)|fail)
 all_goals
  clear K0;obtain⟨-,-,-,-,-,-,Nj⟩:= ‹_∧_∧_∧_∧_∧_∧Below (w.heap.size+2) _ _›;obtain⟨y1,y2,⟨y3,y4,y5,y6,y7⟩,Wb⟩:=JP.o _ Nj;have z0:=Wb 0;have z1:=Wb 1;have z2:=Wb 2;have z3:=Wb 3;have z4:=Wb 4;have HBZ:=Zh Nj;have hj0:(0:Int)≤(j:Int):=oK j;have hj1:(j:Int)<(xl:Int):=PM.2 RZ;clear Nj Wb;go_wp2_with fail
  go_region
  go_wp2;refine Vr (v:=VN ⟨9,xo,xn,0,xx⟩) (by simp[results,results99,go_sem,VN,y3,y4,y5,y6,y7]) rfl ⟨by rw[HT.o],?_⟩;exact((((((KW.o _ HBZ.o).setCell Zi _).setCell Zi _).setCell Zi _).setCell Zi _).setCell Zi _).drew
def ND{α:Type}{p:α→Bool}{l:List α}:0≤findAt p l↔∃x∈l,p x=true:=by
 constructor
 ·intro h;obtain⟨k,hk,-,hp,-⟩:=Xx h;exact⟨l[k],O6 hk,hp⟩
 ·rintro⟨x,hx,hp⟩;unfold findAt;cases hf:l.findIdx? p with
  | none=>
   rw[List.findIdx?_eq_none_iff]at hf;have:=hf x hx;rw[hp]at this;cases this
  | some i=>exact oK i
def Hb{α:Type}{l:List α}{k:Nat}{x:α}(hx:x∈l)(h:∀hk:k<l.length,l[k]≠x):x∈l.eraseIdx k:=by
 obtain⟨i,hi,rfl⟩:=List.getElem_of_mem hx;rw[List.mem_eraseIdx_iff_getElem];refine⟨i,hi,?_,rfl⟩;intro e;subst e;exact h hi rfl
def Dx{T:ZK}{p n:Int}:0≤T.YZ p n↔∃x∈T.ZX,x.peer=p∧x.source=n:=by
 unfold ZK.YZ;rw[ND];simp
def J7{T:ZK}{p n q m:Int}(WA:¬(q=p∧m=n))(h0:0≤T.YZ p n)(h:0≤T.YZ q m):0≤(T.Ww p n).YZ q m:=by
 obtain⟨x,hx,hxq,hxm⟩:=Dx.1 h;obtain⟨k,hk,Ru,hp,-⟩:=Xx h0;rw[Dx];refine⟨x,?_,hxq,hxm⟩;unfold ZK.Ww;refine Hb hx fun AU e=>?_
 have Ru:T.YZ p n=k:=Ru;have:T.ZX[k]=x:=by rw[←e];congr 1;rw[Ru,Wi]
 rw[this]at hp;simp at hp;exact WA ⟨Zo,Zo⟩
def E_(n:Int):∀(l:List Nat) (p:Nat) (T:ZK),ZK.X7 n (l++[p]) T=((ZK.X7 n l T).1++[⟨3,p,n,0,0⟩,⟨2,p,n,0,0⟩],(ZK.X7 n l T).2.Ww p n)
 | [],p,T=>rfl
 | q :: l,p,T=>by
  show ZK.X7 n (q :: (l++[p])) T=_;unfold ZK.X7;rw[E_ n l p];rfl
def T4(n:Int):∀(l:List Nat) (T:ZK),(ZK.X7 n l T).2.Yb=T.Yb∧(ZK.X7 n l T).2.Zu=T.Zu∧(ZK.X7 n l T).2.ZX.length≤T.ZX.length∧(ZK.X7 n l T).1.length=2*l.length
 | [],T=>⟨rfl,rfl,Zq _,rfl⟩
 | q :: l,T=>by
  obtain⟨h1,h2,h3,h4⟩:=T4 n l (T.Ww q n);unfold ZK.X7;refine⟨h1,h2,PJ h3 (by unfold ZK.Ww;dsimp only;exact(List.eraseIdx_sublist _ _).length_le),?_⟩;dsimp only;rw[List.length_cons,List.length_cons,h4,List.length_cons];omega
def BX(n:Int):∀(l:List Nat) (T:ZK) (q:Nat),l.Nodup→(∀p∈l,0≤T.YZ (p:Int) n)→q ∉ l→0≤T.YZ (q:Int) n→0≤(ZK.X7 n l T).2.YZ (q:Int) n
 | [],T,q,_,_,_,h=>h
 | p :: l,T,q,hd,hl,hq,h=>by
  unfold ZK.X7;dsimp only;rw[List.nodup_cons]at hd;have hp:=hl p (List.mem_cons_self ..);refine BX n l (T.Ww p n) q hd.2 (fun r hr=>J7 (fun e=>hd.1 ?_) hp (hl r (List.mem_cons_of_mem _ hr))) (fun e=>hq (List.mem_cons_of_mem _ e)) (J7 (fun e=>hq ?_) hp h)
  ·have:r=p:=by omega
   rw[←this];exact hr
  ·have:q=p:=by omega
   rw[this];exact List.mem_cons_self ..
def IU{T:ZK}{n:Int}{p:Nat}:p∈T.Ze n↔1≤p∧p≤8∧0≤T.YZ (p:Int) n:=by
 unfold ZK.Ze ZK.Vi;rw[Z1g,vS];constructor
 ·rintro⟨⟨q,hq,rfl⟩,h2⟩;rw[List.mem_range]at hq;exact⟨Zo,Zo,of_decide_eq_true h2⟩
 ·rintro⟨h1,h2,h3⟩;exact⟨⟨p-1,by rw[List.mem_range];omega,Zo⟩,WV h3⟩
def Hy(T:ZK)(n:Int):(T.Ze n).Nodup:=by
 unfold ZK.Ze ZK.Vi;refine List.Pairwise.filter _ ?_;rw[List.pairwise_map];exact List.Pairwise.imp (fun h e=>h Zo) List.nodup_range
def Small.Ww{T:ZK}(h:T.Small)(p n:Int):(T.Ww p n).Small:=
 ⟨h.Zu,h.Yb,PJ (List.eraseIdx_sublist _ _).length_le h.ZX⟩
def Small.X7{T:ZK}(h:T.Small)(n:Int)(l:List Nat):(ZK.X7 n l T).2.Small:=by
 obtain⟨h1,h2,h3,-⟩:=T4 n l T;exact⟨by rw[h2];exact h.Zu,by rw[h1];exact h.Yb,PJ h3 h.ZX⟩
def Small.TU{T:ZK}(h:T.Small)(n:Int):(T.TU n).Small:=⟨h.Zu,PJ (List.eraseIdx_sublist _ _).length_le h.Yb,h.ZX⟩
def Small.Yj{T:ZK}(h:T.Small)(n:Int):(T.Yj n).2.Small:=Small.TU (Small.X7 h n _) n
def LO(T:ZK)(n:Int):(T.Yj n).1.length≤16:=by
 have h1:=(T4 n (T.Ze n) T).2.2.2;have h2:=RA T n 8;have h2:(T.Ze n).length≤8:=h2;show(ZK.X7 n (T.Ze n) T).1.length≤16;omega
def R3(p:Int)(T:ZK):∀k,(ZK.ZH p T k).2.Yb=T.Yb∧(ZK.ZH p T k).2.Zu=T.Zu∧(T.Small→(ZK.ZH p T k).2.Small)∧(ZK.ZH p T k).1.length≤k
 | 0=>⟨rfl,rfl,id,Zq _⟩
 | k+1=>by
  obtain⟨h1,h2,h3,h4⟩:=R3 p T k;unfold ZK.ZH;dsimp only;split
  ·exact⟨h1,h2,fun h=>Small.Ww (h3 h) _ _,by dsimp only;rw[UC];simp;omega⟩
  ·exact⟨h1,h2,h3,Zo⟩
def R4(p:Int)(T:ZK):∀k,(ZK.ZB p T k).2.Zu=T.Zu∧(T.Small→(ZK.ZB p T k).2.Small)∧(ZK.ZB p T k).1.length≤k*16
 | 0=>⟨rfl,id,Zq _⟩
 | k+1=>by
  obtain⟨h2,h3,h4⟩:=R4 p T k;unfold ZK.ZB;dsimp only;split
  ·refine⟨?_,fun h=>Small.Yj (h3 h) _,?_⟩
   ·dsimp only;show(ZK.X7 _ _ _).2.Zu=_;rw[(T4 _ _ _).2.1];exact h2
   ·dsimp only;rw[UC];have:=LO (ZK.ZB p T k).2 ((k:Int)+1);omega
  ·exact⟨h2,h3,Zo⟩
def KA(p:Int)(T:ZK)(k:Nat):ZK.ZH p T (k+1)=if 0≤(ZK.ZH p T k).2.YZ p ((k:Int)+1)then((ZK.ZH p T k).1++[⟨2,p,(k:Int)+1,0,0⟩],(ZK.ZH p T k).2.Ww p ((k:Int)+1))else ZK.ZH p T k:=rfl
def KE(p:Int)(T:ZK)(k:Nat):ZK.ZB p T (k+1)=if(ZK.ZB p T k).2.owner ((k:Int)+1)=p then((ZK.ZB p T k).1++((ZK.ZB p T k).2.Yj ((k:Int)+1)).1,((ZK.ZB p T k).2.Yj ((k:Int)+1)).2)else ZK.ZB p T k:=rfl
def JB{T:ZK}{n:Int}:0≤T.YL n↔∃x∈T.Yb,x.num=n:=by
 unfold ZK.YL;rw[ND];simp
def FW{T:ZK}{n:Int}:0≤T.Xw n↔∃x∈T.Zu,x.num=n:=by
 unfold ZK.Xw;rw[ND];simp
def qf{T:ZK}{n p:Int}(hp:p≠0)(h:T.owner n=p):0≤T.YL n:=by
 unfold ZK.owner at h;split at h
 ·exact absurd h.symm hp
 ·omega
def ZI.grown{w w':World}{b:Nat}{T:ZK}(h:ZI w b T){base:Nat}{size:Nat}{vo:Value}{m:Nat}{ys:List Value}(ho:w.ownsRow base 158 size vo m ys)(hg:w.grownBy w' vo.ownBlock)(hb:b<base):ZI w' b T:=by
 have Ow:=h.lt;obtain⟨pv,sv,uv,hc,h1,⟨ms,h2,h3,h4⟩,h5⟩:=h.Vm;exact⟨pv,sv,uv,by rw[hg.block b Ow (fun e=>by have:=YG ho b e.symm;omega)];exact hc,Row.grown h1 ho hg Zd,⟨ms,h2,Row.grown h3 ho hg Zd,fun m hm=>Row.grown (h4 m hm) ho hg Zd⟩,Row.grown h5 ho hg Zd⟩
def Sn(l:List (V4×Value)):(l.flatMap Y_).length=l.length*4:=XH Y_ 4 (fun _=>rfl) l
def OX{l:List (V4×Value)}(h:∀m∈l,∃a n c,m.2 = .slice a n c):∀u∈l.flatMap Y_,u.oneCell'=true:=by
 intro u hu;obtain⟨x,hx,hu⟩:=List.mem_flatMap.1 hu;obtain⟨a,n,c,e⟩:=h x hx;obtain⟨x,v⟩:=x;dsimp only at e;subst e;exact KR x a n c u hu
def Fh{l:List Nat}{k:Nat}(h:k<l.length):l.getD k 0∈l:=by
 rw[QQ,U' h];exact O6 h
def vr{l:List Nat}{k:Nat}(h:k<l.length):l.take (k+1)=l.take k++[l.getD k 0]:=by
 rw[List.take_succ_eq_append_getElem h,QQ,U' h];rfl
def uB{l:List Nat}(h:l.Nodup){k:Nat}(hk:k<l.length):l.getD k 0 ∉ l.take k:=by
 rw[QQ,U' hk];intro hm;obtain⟨i,hi,e⟩:=List.getElem_of_mem hm;rw[SC]at hi;rw[List.getElem_take]at e;exact(List.pairwise_iff_getElem.1 h) i k Zo hk Zo e
def Pc(b:Nat)(T:ZK)(n:Int)(w:World)(hR:ZI w b T)(Va:T.Small)(hs:0≤T.YL n) :
  Calls prog 98 (Qk (some ⟨b,0,none⟩) n) w fun e w'=>(∃v,e = .returned v∧Yx w' v (T.Yj n).1)∧ZI w' b (T.Yj n).2∧Fr w (· = b) w w':=by
 have hb:=hR.lt;have CH:=Zh (Ix b T n w hR);have HLL:(T.Ze n).length≤8:=RA T n 8;have HND:=Zh (Hy T n);have HMEM:Hid (∀p∈T.Ze n,0≤T.YZ (p:Int) n):=fun p hp=>(IU.1 hp).2.2
 have HES:Hid (T.Yj n=((ZK.X7 n (T.Ze n) T).1,(ZK.X7 n (T.Ze n) T).2.TU n)):=rfl;have HR:=Zh hR;have LK:=Zh Va;have HSA:=Zh hs;clear hR Va hs;generalize T.Ze n=L at *;go_enter func98,ntmps98;go_wp2_with fail
 (with_reducible refine CH.o.mono ?_)
 rintro e w1 ⟨⟨lv,rfl,ZW⟩,YV⟩;have U0:=Zh ZW;have Ip:Hid (Fr w (· = b) w w1):=Fr.Z8 _ YV;have JM:=Zh (HR.o.below YV);obtain⟨la,uo,rfl,-,-⟩:=id ZW;clear YV ZW;go_wp2_with fail
 go_loopw [5,13] (fun v i w'=>∃k:Nat,k≤L.length∧i = .int .i64 k∧Fr w (· = b) w w'∧Row w' 3 (.slice la L.length uo) L.length (ints L)∧ZI w' b (ZK.X7 n (L.take k) T).2∧w'.ownsRow w 158 5 v (ZK.X7 n (L.take k) T).1.length ((ZK.X7 n (L.take k) T).1.flatMap Z7)) (fun _ i _=>L.length-(intOf i).toNat)
 case atStart=>exact⟨0,Zo,rfl,Ip.o,U0.o,JM.o,TH _ _ _ _⟩
 case round=>
  obtain⟨k,hk,rfl,Wb,ZW,UG,Yy⟩:=hrel;clear Ip JM U0;have TN:=Zh Wb;have U0:=Zh ZW;have Vb:=Zh UG;have Yd:=Zh Yy;have T8:=Wb.size;clear Wb Yy UG;by_cases Vz:k<L.length
  ·obtain⟨g,off,cap,e1,hg,Yp⟩:=SL ZW Zo;cases e1;have hc:=Yp k Vz;have zV:=(T4 n (L.take k) T).2.2.2;rw[SC]at zV
   have HS:Hid (ZK.X7 n (L.take (k+1)) T=((ZK.X7 n (L.take k) T).1++[⟨3,(L.getD k 0:Nat),n,0,0⟩,⟨2,(L.getD k 0:Nat),n,0,0⟩],(ZK.X7 n (L.take k) T).2.Ww (L.getD k 0:Nat) n)):=by
    show _=_;rw[vr Vz,E_]
   have ce:=Lh b (ZK.X7 n (L.take k) T).2 (L.getD k 0:Nat) n wr Vb.o (Small.X7 LK.o n _) (BX n _ T _ (List.Nodup.sublist (List.take_sublist _ _) HND.o) (fun p hp=>HMEM.o p (List.mem_of_mem_take hp)) (uB HND.o Vz) (HMEM.o _ (Fh Vz)));unfold VN at ce;dsimp only at ce;have CE:=Zh ce;clear ce Yp ZW;generalize L.getD k 0=p at *;generalize ZK.X7 n (L.take k) T=G at *;go_wp2_with (first|(go_at_call 100;(with_reducible refine CE.o.mono ?_);rintro e w2 ⟨rfl,OB,RD⟩;have wP:=Zh OB;have TG:=Zh RD;have pN:=RD.size;clear OB RD)|(at_builtin;refine YN rfl (.tmp 17) (.tmp 25) 98 rfl w Xt _ G.1.length (G.1.flatMap Z7) rfl ?a1 _ 2 ([⟨3,p,n,0,0⟩,⟨2,p,n,0,0⟩].flatMap Z7) rfl ?a2 rfl ?a4 ?a5 ?a6 ?a7 (fun v' w3 HO HG=>?_)))
   case a1=>exact(V_ Yd.o TG.o (fun k hk=>by omega)).alloc _
   case a2=>exact Yn _ _ 2 _ ([⟨3,p,n,0,0⟩,⟨2,p,n,0,0⟩].flatMap Z7) Zd rfl
   case a4=>exact XT _
   case a5=>omega
   case a6=>omega
   case a7=>simp;omega
   go_roundw
   case rel=>
    have RF:=(V_ Yd.o TG.o (fun k hk=>by omega)).alloc (.cells ([⟨3,p,n,0,0⟩,⟨2,p,n,0,0⟩].flatMap Z7).toArray 158);have WO:=Z' w2 (.cells ([⟨3,p,n,0,0⟩,⟨2,p,n,0,0⟩].flatMap Z7).toArray 158);refine⟨k+1,Zo,Zn,?_,?_,?_,?_⟩
    ·exact jt
    ·exact Row.grown ((U0.o.fr TG.o (Zq _) (Vb.o.EA Zd)).below WO) RF HG.o Zd
    ·rw[HS.o];exact ZI.grown (wP.o.below WO) RF HG.o hb
    ·rw[HS.o];dsimp only;rw[UC,O7];exact HO.o
   case measure=>simp[intOf];omega
  ·have hT:L.take k=L:=Ex Zo;rw[hT]at Yd Vb;have vU:=T4 n L T;have iQ:=Small.X7 LK.o n L;have fQ:0≤(ZK.X7 n L T).2.YL n:=by rw[JB,vU.1,←JB];exact HSA.o
   clear hT ZW vU;generalize ZK.X7 n L T=G at *;obtain⟨m,hm,Ox,-,-⟩:=Xx fQ;have Ox:G.2.YL n=m:=Ox;have cb:=VJ b G.2 n wr Vb.o;rw[Ox]at cb;have CB:=Zh cb;have HE:Hid (G.2.TU n={G.2 with Yb:=G.2.Yb.take m++G.2.Yb.drop (m+1)}):=by show _=_;unfold ZK.TU;rw[Ox,Wi,List.eraseIdx_eq_take_drop_succ]
   have Uf:=iQ.Yb;unfold small at Uf;clear cb Ox fQ iQ;go_wp2_with fail
   (with_reducible refine CB.o.mono ?_)
   rintro e V ⟨rfl,M_⟩;have M8:=Zh (Vb.o.below M_);have HFV:Hid (Fr w (· = b) w V):=TN.o.trans ((Fr.Z8 _ M_).mono T8 (fun _ _ h=>h));have HOV:=Zh (Zp Yd.o M_);have pO:w.heap.size≤V.heap.size:=PJ T8 M_.size;clear M_ CB;obtain⟨pv,sv,uv,Yh,Xy⟩:=M8.o.Vm;obtain⟨P,S7,RH,Ty⟩:=Xy.Yb;have MG:m<P.length:=by rw[←S7,Te]at hm;exact hm
   have hPl:P.length≤100000:=by rw[←S7,Te]at Uf;exact Uf
   have ru:Hid (∀x∈P,∃a n c,x.2 = .slice a n c):=fun x hx=>by obtain⟨a,c,h,-,-⟩:=Ty x hx;exact⟨a,_,c,h⟩
   obtain⟨a,cap,rfl,Oy,tS,-,-⟩:=id RH;obtain⟨a1,run1,yU,-⟩:=RT UF a P.length cap m Zo;obtain⟨a2,mB,yV,-⟩:=Sk UF a P.length cap (m+1) Zo Oy;rw[show(((m+1:Nat):Int))=(m:Int)+1 by omega]at mB
   have wT:Hid (∀w',Below V V w'→Row w' 108 (.slice a1 m cap) m ((P.take m).flatMap Y_)):=fun w' h=>by
    have:=yU w' _ Zo (Sn _) (RH.below h)
    rwa[IP Y_ 4 (fun _=>rfl)]at this
   have BF:Hid (∀w',Below V V w'→Row w' 108 (.slice a2 (P.length-(m+1)) (cap-(m+1))) (P.length-(m+1)) ((P.drop (m+1)).flatMap Y_)):=fun w' h=>by
    have:=yV w' _ (Sn _) (RH.below h)
    rwa[IM Y_ 4 (fun _=>rfl)]at this
   have EJ:Hid (((P.take m).flatMap Y_).length=m*4):=by show _=_;rw[Sn,SC,Nat.min_eq_left Zo]
   have q9:Hid (((P.drop (m+1)).flatMap Y_).length=(P.length-(m+1))*4):=by show _=_;rw[Sn,QG]
   have HL3:Hid ((P.take m++P.drop (m+1)).length=m+(P.length-(m+1))):=by show _=_;rw[UC,SC,QG,Nat.min_eq_left Zo]
   have zX:Hid (∀u∈(P.take m).flatMap Y_,u.oneCell'=true):=OX fun x hx=>ru.o x (List.mem_of_mem_take hx)
   have M7:Hid (∀u∈(P.drop (m+1)).flatMap Y_,u.oneCell'=true):=OX fun x hx=>ru.o x (List.mem_of_mem_drop hx)
   have HC:Hid (∀w',Below V V w'→w'.cell? ⟨b,1,none⟩=some (.slice a P.length cap)):=fun w' h=>(h.cell (p:=⟨b,1,none⟩) TQ).trans (ch Yh 1)
   have IV:=M8.o.Yv 1;have HFZ:Hid (∀w',Below V V w'→w'.frozen? ⟨b,1,none⟩=false):=fun w' h=>(h.frozen (p:=⟨b,1,none⟩) TQ).trans IV
   have dt:Hid ((P.take m++P.drop (m+1)).map Prod.fst=G.2.Yb.take m++G.2.Yb.drop (m+1)):=by show _=_;rw[Ng,List.map_take,List.map_drop,S7]
   have Ab:Hid (∀w',Below V V w'→∀x∈P.take m++P.drop (m+1),Row w' 66 x.2 x.1.ss.length (bd x.1.ss)):=fun w' h x hx=>by
    refine(Ty x ?_).below h;rcases EZ.1 hx with hx|hx
    ·exact List.mem_of_mem_take hx
    ·exact List.mem_of_mem_drop hx
   have pE:m+1≤P.length:=MG;have gZ:IntKind.i64.wrap ((m:Int)+1)=(m:Int)+1:=SZ _ Zo;have fA:=HC.o V (YE _ _);have Nh:Below V V V:=YE _ _;clear IV Xy Yh RH yU yV Ty S7 MG hm Uf;generalize P.length=N at *;go_wp2_with fail
   go_region_law (first|(refine Y9 Zr (.const (.slice none 0 0)) (.tmp 37) 48 Zr V UF (.slice none 0 0) 0 [] Zr (TH _ _ _ _) (.slice a1 m cap) m ((P.take m).flatMap Y_) Zr ?_ EJ.o zX.o Zo Zo ?_ ?_;(exact wT.o _ BJ);(exact Below.size BJ);intro v1 w2 TP N7;have Yk:Below V V w2:=Below.grown BJ N7.o (Below.size BJ) (YG (TH V _ 108 4));have c2:=HC.o _ Yk)|(refine Y9 Zr (.tmp 38) (.tmp 45) 48 Zr V UF v1 (0+m) ([]++(P.take m).flatMap Y_) Zr ?_ (.slice a2 (N-(m+1)) (cap-(m+1))) (N-(m+1)) ((P.drop (m+1)).flatMap Y_) Zr ?_ q9.o M7.o Zo Zo ?_ ?_;(first|exact TP.o|exact WY TP.o);(exact BF.o _ BJ);(exact Below.size BJ);intro v2 w3 O5 JL;have V6:Below V V w3:=Below.grown BJ JL.o (Below.size BJ) (YG TP.o);have c3:=HC.o _ V6;have f3:=HFZ.o _ V6;obtain⟨va,vc,hv⟩:=Wl O5.o;subst hv))
   all_goals
    go_wp2;go_ret;have ZW:=Row.Z4 O5.o;rw[IC,←O7,PA]at ZW;have D7:ZI w3 b G.2:=M8.o.below V6;have MF:m+(N-(m+1))=(P.take m++P.drop (m+1)).length:=by rw[HL3.o]
    rw[MF]at ZW;have x9:=D7.GQ _ dt.o ZW (Ab.o _ V6);rw[←MF]at x9;refine⟨⟨_,rfl,?_⟩,?_,?_⟩
    ·rw[HES.o];exact(((Row.Z4 HOV.o).below V6).fr ((Fr.refl w3 (· = b) w3).setAt _ _) (Zq _) (D7.EA Zd))
    ·rw[HES.o];dsimp only;rw[HE.o];exact x9
    ·exact(HFV.o.trans ((Fr.Z8 _ V6).mono pO (fun _ _ h=>h))).setAt _ _
