/- Part of a proof. -/
import Derived.Test.YtpdjhlcbcomdkaaGreatDoorT02
set_option linter.unusedVariables false
set_option linter.unusedSimpArgs false
set_option maxRecDepth 100000
set_option maxHeartbeats 16000000
open Go Go.Q
namespace Go.Proofs.ND
open Go Go.Lib
theorem Dq{l:List UInt8}(h:0<l.length):l≠[]:=List.length_pos_iff.1 h
def BA:Nat→List UInt8→List (Nat×Nat)
 | 0,_=>[]
 | n+1,l=>if l=[]then[]else decodeL l :: BA n (l.drop (decodeL l).2)
def rn(l:List UInt8):List (Nat×Nat):=BA l.length l
theorem DF:∀(n m:Nat) (l:List UInt8),l.length≤n→l.length≤m→BA n l=BA m l
 | 0,m,l,hn,_=>by
  have:l=[]:=AH Zo;subst this;cases m <;> simp[BA]
 | n+1,0,l,_,hm=>by
  have:l=[]:=AH Zo;subst this;simp[BA]
 | n+1,m+1,l,hn,hm=>by
  by_cases WN:l=[]
  ·simp[BA,WN]
  ·have hw:=decodeL_width l;have hl:0<l.length:=List.length_pos_iff.2 WN;simp only[BA,Z3 WN];rw[DF n m _ (by rw[Ra];omega) (by rw[Ra];omega)]
theorem BC:rn []=[]:=rfl
theorem Rp(l:List UInt8)(WN:l≠[]):rn l=decodeL l :: rn (l.drop (decodeL l).2):=by
 have hw:=decodeL_width l;have hl:0<l.length:=List.length_pos_iff.2 WN;unfold rn;obtain⟨n,hn⟩:∃n,l.length=n+1:=⟨l.length-1,Zo⟩;rw[hn,BA,Z3 WN,DF n _ _ (by rw[Ra];omega) (Zw _)]
theorem LR{motive:List UInt8→Prop}(nil:motive [])(step:∀l,l≠[]→motive (l.drop (decodeL l).2)→motive l)(l:List UInt8):motive l:=by
 have key:∀n l,l.length≤n→motive l:=by
  intro n
  induction n with
  | zero=>intro l hl;have:l=[]:=AH Zo;subst this;exact nil
  | succ n ih=>
   intro l hl;by_cases WN:l=[]
   ·subst WN;exact nil
   ·have hw:=decodeL_width l;have hl:0<l.length:=List.length_pos_iff.2 WN;exact step l WN (ih _ (by rw[Ra];omega))
 exact key _ l (Zw _)
def good(p:Nat×Nat):Bool:= !(p.1==65533&&p.2==1)
def G3(r:Nat):Bool:=decide (33≤r)&&(decide (r<127)||decide (159<r)) && !(r==65533)
def may(l:List UInt8):Bool:=(rn l).all (fun p=>G3 p.1)&&decide (1≤(rn l).length)&&decide ((rn l).length≤8)
def runes(l:List UInt8):Int:=if(rn l).all good then((rn l).length:Int)else -1
def low(b:UInt8):UInt8:=if 65≤b.toNat∧b.toNat≤90 then b+32 else b
def key(l:List UInt8):List UInt8:=if may l then l.map low else[]
def Oq(R:List (Nat×Nat)):Nat:=(R.map (·.2)).sum
def cutAt(l:List UInt8)(k:Nat):Nat:=Oq ((rn l).take k)
theorem mR{p:Nat×Nat}(h:G3 p.1=true):good p=true:=by
 unfold G3 at h;unfold good;simp at h ⊢;exact WO h.2
theorem Dl{l:List UInt8}(h:may l=true):(rn l).all good=true:=by
 unfold may at h;simp only[UW]at h;exact List.all_eq_true.2 fun p hp=>mR (List.all_eq_true.1 h.1.1 p hp)
theorem rE:∀l,validD l=(rn l).all good:=by
 refine LR rfl ?_;intro l WN ih;rw[validD_step l WN,Rp l WN,List.all_cons,ih];unfold good;by_cases h:(decodeL l).1=65533∧(decodeL l).2=1
 ·simp[h]
 ·rw[Z3 h]
  have:((decodeL l).1==65533&&(decodeL l).2==1)=false:=by
   rw[J8];simpa using h
  simp[this]
theorem DV:∀l,Oq (rn l)=l.length:=by
 refine LR rfl ?_;intro l WN ih;have h1:=decodeL_le l WN;rw[Rp l WN];unfold Oq at *
 rw[List.map_cons,List.sum_cons,ih,Ra];omega
theorem zU(R:List (Nat×Nat))(k:Nat):Oq (R.take k)≤Oq R:=by
 unfold Oq
 induction R generalizing k with
 | nil=>simp
 | cons a R ih=>cases k with
  | zero=>simp
  | succ k=>simp only[List.take_succ_cons,List.map_cons,List.sum_cons];have:=ih k;omega
theorem Fh(l:List UInt8)(k:Nat):cutAt l k≤l.length:=by
 rw[←DV l];exact zU _ _
theorem uh(l:List UInt8):cutAt l 0=0:=rfl
theorem KZ:∀l,(rn l).length≤l.length:=by
 refine LR (by simp[BC]) ?_;intro l WN ih;have h1:=decodeL_le l WN;have h2:=decodeL_width l;rw[Rp l WN];rw[Ra]at ih;simp;omega
theorem BB:∀l,∀k,rn (l.drop (cutAt l k))=(rn l).drop k:=by
 refine LR (by intro k;simp[BC]) ?_;intro l WN ih k;cases k with
 | zero=>simp[uh]
 | succ k=>
  have:=ih k;unfold cutAt at *
  rw[Rp l WN,List.take_succ_cons,List.drop_succ_cons];unfold Oq at *
  rw[List.map_cons,List.sum_cons,←this,List.drop_drop]
theorem Fi(l:List UInt8)(k:Nat)(h:cutAt l k<l.length):cutAt l (k+1)=cutAt l k+(decodeL (l.drop (cutAt l k))).2:=by
 have WN:l.drop (cutAt l k)≠[]:=Dq (by rw[Ra];omega);have h1:=BB l k;rw[Rp _ WN]at h1;unfold cutAt at *
 have hk:(rn l)[k]?=some (decodeL (l.drop (Oq ((rn l).take k)))):=by
  have:=congrArg (·[0]?) h1;simpa using this.symm
 rw[List.take_add_one,hk];unfold Oq;simp
theorem pQ(l:List UInt8)(k:Nat):cutAt l k=l.length↔(rn l).length≤k:=by
 constructor
 ·intro h;have h1:=BB l k;rw[h,List.drop_length,BC]at h1;have:=congrArg List.length h1;rw[Ra]at this;simp at this;omega
 ·intro h;unfold cutAt;rw[EM h,DV]
theorem Kf(l:List UInt8)(k:Nat):cutAt l k<l.length↔k<(rn l).length:=by
 have h1:=pQ l k;have h2:=Fh l k;omega
theorem kM(l:List UInt8)(k:Nat)(h:k≤(rn l).length):k≤cutAt l k:=by
 induction k with
 | zero=>exact TH _
 | succ k ih=>
  have:=(Kf l k).2 Zo;have:=ih Zo;rw[Fi l k SU];have:=decodeL_width (l.drop (cutAt l k));omega
theorem rn_at(l:List UInt8)(k:Nat)(h:k<(rn l).length):(rn l)[k]=decodeL (l.drop (cutAt l k)):=by
 have OT:=(Kf l k).2 h;have WN:l.drop (cutAt l k)≠[]:=Dq (by rw[Ra];omega);have h1:=BB l k;rw[Rp _ WN]at h1;have:=congrArg (·[0]?) h1;simp[Ve h]at this;exact this.symm
theorem uj{p:Nat×Nat}(h:good p=false):p=(65533,1):=by
 unfold good at h;simp at h;exact Prod.ext h.1 h.2
theorem ui(l:List UInt8):(decodeL l).2≤4:=by
 rw[decodeL_N];rcases decodeN_shape l.length (l.getD 0 0).toNat (l.getD 1 0).toNat (l.getD 2 0).toNat (l.getD 3 0).toNat with⟨c,e⟩|⟨c1,c2,c3,cv,e⟩|⟨c1,c2,c3,c4,cv,cs,e⟩|⟨c1,c2,c3,c4,c5,cv,cw,e⟩|e
 all_goals(rw[e];dsimp only;omega)
theorem uT:∀l,l.length≤4*(rn l).length:=by
 refine LR (by simp[BC]) ?_;intro l WN ih;have h1:=ui l;rw[Ra]at ih;rw[Rp l WN,List.length_cons];omega
theorem sL{l:List UInt8}(h:may l=true):l.length≤32:=by
 have:=uT l;unfold may at h;simp at h;omega
/-! Keys -/
def TQ(r:Nat):Nat:=if 65≤r∧r≤90 then r+32 else r
theorem Rb(b:UInt8):(low b).toNat=TQ b.toNat:=by
 unfold low TQ;split
 ·rename_i h
  rw[UInt8.toNat_add];have:(32:UInt8).toNat=32:=rfl;rw[this];omega
 ·rfl
theorem Kn(l:List UInt8)(i:Nat):((l.map low).getD i 0).toNat=TQ (l.getD i 0).toNat:=by
 rw[Q_,Q_,List.getElem?_map];cases l[i]? with
 | none=>rfl
 | some b=>exact Rb b
theorem x8(n b0 b1 b2 b3:Nat):decodeN n (TQ b0) (TQ b1) (TQ b2) (TQ b3)=(TQ (decodeN n b0 b1 b2 b3).1,(decodeN n b0 b1 b2 b3).2):=by
 have hc:∀b,128≤b→TQ b=b:=by intro b h;unfold TQ;rw[Z3 Zo]
 have hl:∀b,b<128→TQ b<128:=by intro b h;unfold TQ;split <;> omega
 have h64:∀b,TQ b/64=2↔b/64=2:=by
  intro b;unfold TQ;split <;> omega
 by_cases h0:b0<128
 ·unfold decodeN;rw[ZU (hl _ h0),ZU h0]
 ·have e0:=hc b0 Zo;rw[e0];have h8:∀b,b/64=2→TQ b=b:=fun b h=>hc b Zo
  by_cases k1:b1/64=2
  ·rw[h8 b1 k1];by_cases k2:b2/64=2
   ·rw[h8 b2 k2];by_cases k3:b3/64=2
    ·rw[h8 b3 k3];exact fF
    ·have k3':¬TQ b3/64=2:=fun h=>k3 ((h64 b3).1 h)
     have e3:decodeN n b0 b1 b2 (TQ b3)=decodeN n b0 b1 b2 b3:=by
      unfold decodeN;rw[Z3 h0,Z3 h0];simp only[k3,k3',and_false,if_false]
     rw[e3];exact fF
   ·have k2':¬TQ b2/64=2:=fun h=>k2 ((h64 b2).1 h)
    have e3:decodeN n b0 b1 (TQ b2) (TQ b3)=decodeN n b0 b1 b2 b3:=by
     unfold decodeN;rw[Z3 h0,Z3 h0];simp only[k2,k2',and_false,false_and,if_false]
    rw[e3];exact fF
  ·have k1':¬TQ b1/64=2:=fun h=>k1 ((h64 b1).1 h)
   have e3:decodeN n b0 (TQ b1) (TQ b2) (TQ b3)=decodeN n b0 b1 b2 b3:=by
    unfold decodeN;rw[Z3 h0,Z3 h0];simp only[k1,k1',and_false,false_and,if_false]
   rw[e3];exact fF
theorem um(l:List UInt8):decodeL (l.map low)=(TQ (decodeL l).1,(decodeL l).2):=by
 rw[decodeL_N,decodeL_N,Tx,Kn,Kn,Kn,Kn,x8]
theorem bf:∀l,rn (l.map low)=(rn l).map fun p=>(TQ p.1,p.2):=by
 refine LR rfl ?_;intro l WN ih;rw[Rp _ (by simpa using WN),Rp l WN,List.map_cons,um];dsimp only;rw[←List.map_drop,ih]
theorem iq(r:Nat):G3 (TQ r)=G3 r:=by
 unfold G3 TQ;split
 ·rename_i h
  rw[Bool.eq_iff_iff];simp;omega
 ·rfl
theorem sM(l:List UInt8):may (l.map low)=may l:=by
 unfold may;rw[bf,Tx,List.all_map]
 congr 2
 apply List.all_congr rfl;intro p;exact iq _
theorem ig(b:UInt8):low (low b)=low b:=by
 apply UInt8.toNat_inj.1;rw[Rb,Rb];unfold TQ;repeat' split
 all_goals omega
theorem mH(l:List UInt8)(h:may l=true):(key l).length=l.length∧may (key l)=true∧key (key l)=key l:=by
 have e:key l=l.map low:=by unfold key;rw[ZU h]
 rw[e];refine⟨Tx _,by rw[sM,h],?_⟩;unfold key;rw[ZU (by rw[sM,h]),List.map_map]
 congr 1
 funext b;exact ig b
def NB(r:Int):Int:=if 65≤r∧r≤90 then r-65+97 else r
theorem Ed(l:List UInt8)(WN:l≠[])(h:(decodeL l).1<128):∃b t,l=b :: t∧b.toNat<128∧decodeL l=(b.toNat,1):=by
 cases l with
 | nil=>exact absurd rfl WN
 | cons b t=>
  refine⟨b,t,rfl,?_⟩;have e0:(b :: t).getD 0 0=b:=rfl;rw[decodeL_N,e0]at h ⊢;rcases decodeN_shape (b :: t).length b.toNat ((b :: t).getD 1 0).toNat ((b :: t).getD 2 0).toNat ((b :: t).getD 3 0).toNat with⟨c,e⟩|⟨c1,c2,c3,cv,e⟩|⟨c1,c2,c3,c4,cv,cs,e⟩|⟨c1,c2,c3,c4,c5,cv,cw,e⟩|e
  ·exact⟨c,e⟩
  all_goals(rw[e]at h;dsimp only at h;omega)
theorem Hg(r:Int)(h:128≤r):∀b∈encodeRune r,low b=b:=by
 intro b hb
 have:128≤b.toNat:=by
  unfold encodeRune at hb;obtain⟨z,hz,rfl⟩:=wI.1 hb;have h1:=encodeRuneZ_byte r z hz
  have h2:128≤z:=by
   unfold encodeRuneZ at hz
   repeat' split at hz
   all_goals simp at hz
   all_goals omega
  obtain⟨n,rfl⟩:=Rw h1.1;simp;omega
 unfold low;rw[Z3 Zo]
theorem mL:∀l,validD l=true→mapD NB l=l.map low:=by
 refine LR (fun _=>rfl) ?_;intro l WN ih hv;rw[validD_step l WN]at hv;split at hv
 ·cases hv
 rename_i hg
 have ih:=ih hv;by_cases h:(decodeL l).1<128
 ·obtain⟨b,t,rfl,hb,hd⟩:=Ed l WN h;rw[mapD_step _ _ WN,ih,hd];dsimp only[List.drop_succ_cons,List.drop_zero,List.map_cons];have h0:0≤NB (b.toNat:Int):=by unfold NB;split <;> omega
  rw[ZU h0]
  have:encodeRune (NB (b.toNat:Int))=[low b]:=by
   have e2:NB (b.toNat:Int)=((low b).toNat:Int):=by
    rw[Rb];unfold NB TQ;repeat' split
    all_goals omega
   have h3:(low b).toNat<128:=by rw[Rb];unfold TQ;split <;> omega
   rw[e2];unfold encodeRune;rw[encodeRuneZ_one Zo Zo];simp
  rw[this];rfl
 ·have hf:NB ((decodeL l).1:Int)=(decodeL l).1:=by unfold NB;rw[Z3 Zo]
  rw[mapD_same NB l WN hf hg,ih,←encode_decode l WN hg]
  conv=>rhs;rw[←List.take_append_drop (decodeL l).2 l,Nv,←encode_decode l WN hg]
  congr 1
  have:=Hg ((decodeL l).1:Int) Zo;exact(List.map_congr_left this).symm▸(List.map_id _).symm
/-! One rune -/
end Go.Proofs.ND
namespace Go.Proofs.Rm
open Go.Proofs.ND (may key)
structure Op where
 kind:Int
 peer:Int
 source:Int
 ZI:Int
 name:List UInt8
 ZK:List Int
structure YF where
 kind:Int
 peer:Int
 source:Int
 ZI:Int
 Yl:Int
deriving DecidableEq
structure Src where
 there:Bool
 num:Int
 own:Int
 sv:Value
 ss:List Int
 ZN:Bool
structure Sub where
 there:Bool
 ZV:Bool
 want:Int
structure Room where
 names:Nat→List UInt8
 src:Nat→Src
 sub:Nat→Nat→Sub
def Uc:Src:=⟨false,0,0,.slice none 0 0,[],false⟩
def U9:Sub:=⟨false,false,0⟩
def empty:Room:=⟨fun _=>[],fun _=>Uc,fun _ _=>U9⟩
def Room.setName(R:Room)(p:Nat)(s:List UInt8):Room:={R with names:=fun q=>if q=p then s else R.names q}
def Room.Y0(R:Room)(n:Nat)(s:Src):Room:={R with src:=fun q=>if q=n then s else R.src q}
def Room.ZQ(R:Room)(n p:Nat)(x:Sub):Room:={R with sub:=fun m q=>if m=n∧q=p then x else R.sub m q}
def VI(n below:Int):Bool:=decide (1≤n)&&decide (n<below)
def Y_(R:Room)(p:Int):Bool:=VI p 9 && !(R.names p.toNat).isEmpty
def index(l:List Int)(x:Int):Int:=match l.findIdx? (fun y=>y==x)with|some i=>i|none=> -1
def RT(R:Room)(x:Int):Nat→Nat→Int×Int×Bool
 | 0,_=>(0,0,false)
 | k+1,n=>if(R.src n).there&&decide (0≤index (R.src n).ss x)then((n:Int),index (R.src n).ss x,true)else RT R x k (n+1)
def of(R:Room)(x:Int):Int×Int×Bool:=RT R x 9 0
def Zp(R:Room)(p n:Int):Bool:=VI p 9&&VI n 9&&(R.sub n.toNat p.toNat).there
def ZY(R:Room)(n:Int):List Nat:=(List.range 9).filter fun p=>Zp R p n
def ZI(R:Room)(o:Op):Int:=if o.ZI<0∨((R.src o.source.toNat).ss.length:Int)≤o.ZI then 5 else 0
def heard(R:Room)(o:Op):Int:=
 let x:=R.sub o.source.toNat o.peer.toNat
 if !x.there then 8
 else if o.kind=10∧x.ZV=true then 9
 else if o.kind=11∧x.ZV=false then 11
 else if o.kind≠12 then 0
 else if ZI R o≠0 then ZI R o
 else if x.want=o.ZI then 9 else 0
def about(R:Room)(o:Op):Int:=
 let s:=R.src o.source.toNat
 if o.kind=5∨o.kind=8∨o.kind=9 then
  (if s.own≠o.peer then 10 else if o.kind=8∧s.ZN=true then 9 else if o.kind=9∧s.ZN=false then 11 else 0)
 else if o.kind=6 then
  (if s.own=o.peer then 10 else if(R.sub o.source.toNat o.peer.toNat).there then 9 else ZI R o)
 else heard R o
def Vu(R:Room)(l:List Int)(i:Nat):Bool:=(of R (l.getD i 0)).2.2||(l.take i).contains (l.getD i 0)
def VR(R:Room)(o:Op):Int:=
 if o.ZK.length<1∨3<o.ZK.length then 5
 else if o.ZK.any (fun s=>decide (s<2)||decide (3221225472≤s))then 5
 else if(R.src o.source.toNat).there then 9
 else if(List.range o.ZK.length).any (Vu R o.ZK)then 9 else 0
def sameKey(R:Room)(o:Op)(n:Nat):Bool:= !(R.names n).isEmpty&&decide (key (R.names n)=key o.name)
def L_(R:Room)(o:Op):Int:=
 if Y_ R o.peer then 9
 else if !may o.name then 12
 else if(List.range 9).any (sameKey R o)then 9 else 0
def XW(R:Room)(o:Op):Int:=
 if o.kind<2∨12<o.kind then 4
 else if !VI o.peer 9 then 5
 else if o.kind=2 then L_ R o
 else if !Y_ R o.peer then 8
 else if o.kind=3 then 0
 else if !VI o.source 9 then 5
 else if o.kind=4 then VR R o
 else if !(R.src o.source.toNat).there then 8
 else about R o
def asks(R:Room)(p n:Nat):YF:=⟨9,(R.src n).own,n,0,(R.src n).ss.getD (R.sub n p).want.toNat 0⟩
def waits(R:Room)(p n:Nat):List YF:=if(R.sub n p).ZV||(R.src n).ZN then[]else[asks R p n]
def Xk(n:Nat):List Nat→Room→List YF×Room
 | [],R=>([],R)
 | p :: l,R=>let x:=Xk n l (R.ZQ n p U9);(⟨3,p,n,0,0⟩ :: ⟨2,p,n,0,0⟩ :: x.1,x.2)
def gone(R:Room)(n:Nat):List YF×Room:=
 let x:=Xk n (ZY R n) R
 (x.1,x.2.Y0 n Uc)
def ZL(p:Nat)(R:Room):Nat→List YF×Room
 | 0=>([],R)
 | k+1=>let x:=ZL p R k;if(x.2.sub k p).there then(x.1++[⟨2,p,k,0,0⟩],x.2.ZQ k p U9)else x
def ZH(R0:Room)(p:Nat):Nat→List YF×Room
 | 0=>([],R0)
 | k+1=>let x:=ZH R0 p k;if(R0.src k).there&&decide ((R0.src k).own=p)then(x.1++(gone x.2 k).1,(gone x.2 k).2)else x
def leave(R:Room)(p:Nat):List YF×Room:=
 ((ZL p R 9).1++(ZH (ZL p R 9).2 p 9).1,(ZH (ZL p R 9).2 p 9).2.setName p [])
def begin(R:Room)(o:Op):List YF×Room:=
 let n:=o.source.toNat;let p:=o.peer.toNat
 let R1:=R.ZQ n p ⟨true,false,o.ZI⟩
 (⟨1,o.peer,o.source,o.ZI,0⟩ :: (if(R.src n).ZN then[⟨6,o.peer,o.source,0,0⟩]else[asks R1 p n]),R1)
def YX(R:Room)(n:Nat)(on:Bool)(p:Nat):List YF:=
 if on then[⟨6,p,n,0,0⟩]else⟨7,p,n,0,0⟩ :: waits R p n
def mute(R:Room)(n:Nat)(on:Bool):List YF×Room:=
 let R1:=R.Y0 n {R.src n with ZN:=on}
 ((ZY R1 n).flatMap (YX R1 n on),R1)
def turns(R:Room)(o:Op)(sv:Value):List YF×Room:=
 let n:=o.source.toNat;let p:=o.peer.toNat;let x:=R.sub n p
 if o.kind=2 then([],R.setName p o.name)
 else if o.kind=3 then leave R p
 else if o.kind=4 then([],R.Y0 n ⟨true,o.source,o.peer,sv,o.ZK,false⟩)
 else if o.kind=5 then gone R n
 else if o.kind=6 then begin R o
 else if o.kind=7 then([⟨2,o.peer,o.source,0,0⟩],R.ZQ n p U9)
 else if o.kind=8 then mute R n true
 else if o.kind=9 then mute R n false
 else if o.kind=10 then([⟨4,o.peer,o.source,0,0⟩],R.ZQ n p {x with ZV:=true})
 else if o.kind=11 then let R1:=R.ZQ n p {x with ZV:=false};(⟨5,o.peer,o.source,0,0⟩ :: waits R1 p n,R1)
 else if o.kind=12 then let R1:=R.ZQ n p {x with want:=o.ZI};(⟨8,o.peer,o.source,o.ZI,0⟩ :: waits R1 p n,R1)
 else([],R)
def WG(R:Room)(o:Op)(sv:Value):(List YF×Room)×Int:=if XW R o≠0 then(([],R),XW R o)else(turns R o sv,0)
def YW(R:Room)(peer Yl:Int):(List YF×Room)×Int:=
 if !(of R Yl).2.2 || !Y_ R peer||decide ((R.src (of R Yl).1.toNat).own≠peer)then(([],R),8)else(gone R (of R Yl).1.toNat,0)
structure Inv(R:Room):Prop where
 QN:R.names 0=[]∧(R.src 0).there=false
 Y6:∀n p,(R.sub n p).there=true→1≤n∧n<9∧1≤p∧p<9∧(R.src n).there=true∧R.names p≠[]∧(R.src n).own≠p∧0≤(R.sub n p).want∧(R.sub n p).want<(R.src n).ss.length
 YV:∀n,(R.src n).there=true→1≤n∧n<9∧(R.src n).num=n∧Y_ R (R.src n).own=true∧1≤(R.src n).ss.length∧(R.src n).ss.length≤3∧(R.src n).ss.Nodup∧∀x∈(R.src n).ss,2≤x∧x<3221225472
 apart:∀n m x,(R.src n).there=true→(R.src m).there=true→x∈(R.src n).ss→x∈(R.src m).ss→n=m
 nameAt:∀p,R.names p≠[]→p<9∧may (R.names p)=true
 keys:∀p q,R.names p≠[]→key (R.names p)=key (R.names q)→p=q
theorem VL(R:Room)(n p:Nat)(x:Sub)(m q:Nat):(R.ZQ n p x).sub m q=if m=n∧q=p then x else R.sub m q:=rfl
theorem Wq(R:Room)(n:Nat)(x:Src)(m:Nat):(R.Y0 n x).src m=if m=n then x else R.src m:=rfl
theorem X6(R:Room)(p:Nat)(s:List UInt8)(q:Nat):(R.setName p s).names q=if q=p then s else R.names q:=rfl
theorem Kr(n:Nat):∀l R,(Xk n l R).2.names=R.names
 | [],_=>rfl
 | p :: l,R=>Kr n l (R.ZQ n p U9)
theorem LB(n:Nat):∀l R,(Xk n l R).2.src=R.src
 | [],_=>rfl
 | p :: l,R=>LB n l (R.ZQ n p U9)
theorem Fw(n:Nat):∀l R m q,(Xk n l R).2.sub m q=if m=n∧q∈l then U9 else R.sub m q
 | [],R,m,q=>by simp[Xk]
 | p :: l,R,m,q=>by
  show(Xk n l (R.ZQ n p U9)).2.sub m q=_;rw[Fw n l,VL];by_cases h1:m=n∧q∈l
  ·rw[ZU h1,ZU ⟨h1.1,List.mem_cons_of_mem _ h1.2⟩]
  ·rw[Z3 h1];by_cases h2:m=n∧q=p
   ·rw[ZU h2,ZU ⟨h2.1,by rw[h2.2];exact List.mem_cons_self⟩]
   ·rw[Z3 h2,Z3];rintro⟨a,b⟩;rcases J9.1 b with b|b
    ·exact h2 ⟨a,b⟩
    ·exact h1 ⟨a,b⟩
theorem Bg{n:Nat}{k:Int}:VI n k=true↔1≤n∧(n:Int)<k:=by unfold VI;simp;omega
theorem UJ{R:Room}{p n:Nat}:Zp R p n=true↔1≤p∧p<9∧1≤n∧n<9∧(R.sub n p).there=true:=by
 unfold Zp;rw[UW,UW,Bg,Bg,Wl,Wl];exact⟨fun⟨⟨⟨a,b⟩,c,d⟩,e⟩=>⟨a,Zo,c,Zo,e⟩,fun⟨a,b,c,d,e⟩=>⟨⟨⟨a,Zo⟩,c,Zo⟩,e⟩⟩
theorem O5{R:Room}{n p:Nat}:p∈ZY R n↔1≤p∧p<9∧1≤n∧n<9∧(R.sub n p).there=true:=by
 unfold ZY;rw[Z1f,List.mem_range,UJ];exact⟨fun⟨_,h⟩=>h,fun h=>⟨h.2.1,h⟩⟩
theorem Inv.O5{R:Room}(hI:Inv R){n p:Nat}:p∈ZY R n↔(R.sub n p).there=true:=by
 rw[Rm.O5];constructor
 ·exact fun h=>h.2.2.2.2
 ·intro h;have:=hI.Y6 n p h;exact⟨this.2.2.1,this.2.2.2.1,this.1,this.2.1,h⟩
theorem Fy(R:Room)(n:Nat):(gone R n).2.names=R.names:=Kr n _ _
theorem OQ(R:Room)(n m:Nat):(gone R n).2.src m=if m=n then Uc else R.src m:=by
 show(((Xk n (ZY R n) R).2).Y0 n Uc).src m=_;rw[Wq,LB]
theorem yl(R:Room)(n m q:Nat):(gone R n).2.sub m q=if m=n∧q∈ZY R n then U9 else R.sub m q:=Fw n _ _ m q
theorem Fz{R:Room}(hI:Inv R)(n m q:Nat):((gone R n).2.sub m q).there=true↔m≠n∧(R.sub m q).there=true:=by
 rw[yl];by_cases h:m=n
 ·subst h;by_cases h2:(R.sub m q).there=true
  ·rw[ZU ⟨rfl,hI.O5.2 h2⟩];simp[U9]
  ·rw[Z3 (fun h=>h2 (hI.O5.1 h.2))];simp[h2]
 ·rw[Z3 (fun e=>h e.1)];simp[h]
theorem gg(R:Room){n m:Nat}(h:m≠n)(q:Nat):(gone R n).2.sub m q=R.sub m q:=by rw[yl,Z3 (fun e=>h e.1)]
theorem KA{R R':Room}(h:R'.names=R.names)(p:Int):Y_ R' p=Y_ R p:=by unfold Y_;rw[h]
theorem FP{R:Room}{p:Nat}:Y_ R p=true↔1≤p∧p<9∧R.names p≠[]:=by
 unfold Y_;rw[UW,Bg,Wl];have:(!(R.names p).isEmpty)=true↔R.names p≠[]:=by simp
 rw[this];exact⟨fun⟨⟨a,b⟩,c⟩=>⟨a,Zo,c⟩,fun⟨a,b,c⟩=>⟨⟨a,Zo⟩,c⟩⟩
theorem FK{R:Room}(hI:Inv R)(n:Nat):Inv (gone R n).2:=by
 have hn:=Fy R n;refine⟨?_,?_,?_,?_,?_,?_⟩
 ·rw[hn,OQ];refine⟨hI.QN.1,?_⟩;split
  ·rfl
  ·exact hI.QN.2
 ·intro m q h;obtain⟨h1,h2⟩:=(Fz hI n m q).1 h;have:=hI.Y6 m q h2;rw[gg R h1,OQ,Z3 h1,hn];exact this
 ·intro m h;rw[OQ]at h ⊢;by_cases h1:m=n
  ·rw[ZU h1]at h;cases h
  ·rw[Z3 h1]at h ⊢;rw[KA hn];exact hI.YV m h
 ·intro m k x h1 h2 h3 h4;rw[OQ]at h1 h2 h3 h4;by_cases hm:m=n
  ·rw[ZU hm]at h1;cases h1
  by_cases hk:k=n
  ·rw[ZU hk]at h2;cases h2
  rw[Z3 hm]at h1 h3;rw[Z3 hk]at h2 h4;exact hI.apart m k x h1 h2 h3 h4
 ·rw[hn];exact hI.nameAt
 ·rw[hn];exact hI.keys
theorem sI{R:Room}(hI:Inv R)(n p:Nat):Inv (R.ZQ n p U9):=by
 refine⟨hI.QN,?_,hI.YV,hI.apart,hI.nameAt,hI.keys⟩;intro m q h;rw[VL]at h ⊢;by_cases h1:m=n∧q=p
 ·rw[ZU h1]at h;cases h
 ·rw[Z3 h1]at h ⊢;exact hI.Y6 m q h
theorem QH{R:Room}(hI:Inv R)(p:Nat):∀k,Inv (ZL p R k).2
 | 0=>hI
 | k+1=>by
  unfold ZL;dsimp only;split
  ·exact sI (QH hI p k) k p
  ·exact QH hI p k
theorem N6{R:Room}(hI:Inv R)(p:Nat):∀k,Inv (ZH R p k).2
 | 0=>hI
 | k+1=>by
  unfold ZH;dsimp only;split
  ·exact FK (N6 hI p k) k
  ·exact N6 hI p k
theorem Rk(R:Room)(p:Nat):∀k,(ZL p R k).2.names=R.names∧(ZL p R k).2.src=R.src
 | 0=>⟨rfl,rfl⟩
 | k+1=>by
  unfold ZL;dsimp only;split
  ·exact Rk R p k
  ·exact Rk R p k
theorem KE(R:Room)(p:Nat):∀k m q,((ZL p R k).2.sub m q).there=((R.sub m q).there && !(decide (q=p)&&decide (m<k)))
 | 0,m,q=>by simp[ZL]
 | k+1,m,q=>by
  have ih:=KE R p k;unfold ZL;dsimp only;by_cases ht:((ZL p R k).2.sub k p).there=true
  ·rw[ZU ht];dsimp only;rw[VL];by_cases h:m=k∧q=p
   ·rw[ZU h,h.1,h.2];simp[U9]
   ·rw[Z3 h,ih];by_cases hq:q=p
    ·have:m≠k:=fun e=>h ⟨e,hq⟩
     simp[hq];by_cases hm:m<k
     ·simp[hm,Nat.lt_succ_of_lt hm]
     ·have:¬m<k+1:=by omega
      simp[hm,this]
    ·simp[hq]
  ·rw[Z3 ht,ih];by_cases hq:q=p
   ·by_cases hm:m=k
    ·subst hm;subst hq;rw[ih]at ht;simp at ht;simp[ht]
    ·simp[hq];by_cases dF:m<k
     ·simp[dF,Nat.lt_succ_of_lt dF]
     ·have:¬m<k+1:=by omega
      simp[dF,this]
   ·simp[hq]
theorem Ob(R:Room)(p:Nat):∀k,(ZH R p k).2.names=R.names
 | 0=>rfl
 | k+1=>by
  unfold ZH;dsimp only;split
  ·dsimp only;rw[Fy];exact Ob R p k
  ·exact Ob R p k
theorem Oc(R:Room)(p:Nat):∀k m,(ZH R p k).2.src m=if m<k∧(R.src m).there=true∧(R.src m).own=p then Uc else R.src m
 | 0,m=>by simp[ZH]
 | k+1,m=>by
  have ih:=Oc R p k m;unfold ZH;dsimp only;by_cases hc:((R.src k).there&&decide ((R.src k).own=p))=true
  ·rw[ZU hc];dsimp only;rw[OQ];rw[UW,Sz]at hc;by_cases hm:m=k
   ·subst hm;rw[ZU rfl,ZU ⟨Zo,hc.1,hc.2⟩]
   ·rw[Z3 hm,ih];have:m<k+1↔m<k:=by omega
    simp only[this]
  ·rw[Z3 hc,ih];rw[UW,Sz]at hc;by_cases hm:m=k
   ·subst hm;rw[Z3 Zo,Z3 (fun h=>hc ⟨h.2.1,h.2.2⟩)]
   ·have:m<k+1↔m<k:=by omega
    simp only[this]
theorem KF{R:Room}(hI:Inv R)(p:Nat):∀k m q,((ZH R p k).2.sub m q).there=true↔(R.sub m q).there=true∧¬(m<k∧(R.src m).there=true∧(R.src m).own=p)
 | 0,m,q=>by simp[ZH]
 | k+1,m,q=>by
  have ih:=KF hI p k m q;unfold ZH;dsimp only;by_cases hc:((R.src k).there&&decide ((R.src k).own=p))=true
  ·rw[ZU hc];dsimp only;rw[Fz (N6 hI p k),ih];rw[UW,Sz]at hc;by_cases hm:m=k
   ·subst hm;constructor
    ·rintro⟨h,_⟩;exact absurd rfl h
    ·rintro⟨_,h⟩;exact absurd ⟨Zo,hc⟩ h
   ·have:m<k+1↔m<k:=by omega
    rw[this];exact⟨fun h=>h.2,fun h=>⟨hm,h⟩⟩
  ·rw[Z3 hc,ih];rw[UW,Sz]at hc;by_cases hm:m=k
   ·subst hm;constructor
    ·rintro⟨h,_⟩;exact⟨h,fun e=>hc e.2⟩
    ·rintro⟨h,_⟩;exact⟨h,fun e=>by omega⟩
   ·have:m<k+1↔m<k:=by omega
    rw[this]
theorem FR{l:List UInt8}(h:may l=true):key l≠[]:=by
 intro e;have h1:=(ND.mH l h).1;rw[e]at h1;have:l=[]:=AH h1.symm;subst this;cases h
theorem uM{R:Room}(hI:Inv R)(p:Nat)(hs:∀m,(R.src m).there=true→(R.src m).own≠p)(hu:∀m,(R.sub m p).there=false):Inv (R.setName p []):=by
 refine⟨⟨?_,hI.QN.2⟩,?_,?_,hI.apart,?_,?_⟩
 ·rw[X6];split
  ·rfl
  ·exact hI.QN.1
 ·intro m q h;have h0:=hI.Y6 m q h
  have hq:q≠p:=by
   rintro rfl;have h2:=hu m;have h3:(R.sub m q).there=true:=h;rw[h2]at h3;cases h3
  rw[X6,Z3 hq];exact h0
 ·intro m h;obtain⟨h1,h2,h3,h4,h5⟩:=hI.YV m h;refine⟨h1,h2,h3,?_,h5⟩;have ho:=hs m h;show Y_ (R.setName p []) (R.src m).own=true;unfold Y_ at h4 ⊢;rw[UW]at h4 ⊢;refine⟨h4.1,?_⟩;rw[X6,Z3]
  ·exact h4.2
  ·intro e;have:=h4.1;unfold VI at this;simp at this;omega
 ·intro q h;rw[X6]at h ⊢;by_cases hq:q=p
  ·rw[ZU hq]at h;exact absurd rfl h
  ·rw[Z3 hq]at h ⊢;exact hI.nameAt q h
 ·intro q r h e;rw[X6]at h e;by_cases hq:q=p
  ·rw[ZU hq]at h;exact absurd rfl h
  rw[Z3 hq]at h e;rw[X6]at e;by_cases hr:r=p
  ·rw[ZU hr]at e;exact absurd e (FR (hI.nameAt q h).2)
  ·rw[Z3 hr]at e;exact hI.keys q r h e
theorem qz{R:Room}(hI:Inv R)(p:Nat):Inv (leave R p).2:=by
 have h1:=QH hI p 9;refine uM (N6 h1 p 9) p ?_ ?_
 ·intro m h;rw[Oc]at h ⊢;by_cases hc:m<9∧((ZL p R 9).2.src m).there=true∧((ZL p R 9).2.src m).own=p
  ·rw[ZU hc]at h;cases h
  ·rw[Z3 hc]at h ⊢;intro e;exact hc ⟨(h1.YV m h).2.1,h,e⟩
 ·intro m;rw[J8];intro h;have h2:=((KF h1 p 9 m p).1 h).1;have h3:=h1.Y6 m p h2;rw[KE]at h2;simp at h2;omega
end Go.Proofs.Rm
namespace Go.Proofs.Rm
open Go.Proofs.ND (may key)
structure Ok(R:Room)(o:Op):Prop where
 kind:2≤o.kind∧o.kind≤12
 peer:1≤o.peer∧o.peer<9
 join:o.kind=2→L_ R o=0
 there:o.kind≠2→Y_ R o.peer=true
 src:4≤o.kind→1≤o.source∧o.source<9
 Bu:o.kind=4→VR R o=0
 is:5≤o.kind→(R.src o.source.toNat).there=true
 abt:5≤o.kind→about R o=0
theorem XO(n k:Int):VI n k=true↔1≤n∧n<k:=by unfold VI;simp
theorem Pn{R:Room}{o:Op}(h:XW R o=0):Ok R o:=by
 unfold XW at h;by_cases h1:o.kind<2∨12<o.kind
 ·rw[ZU h1]at h;exact absurd h Zd
 rw[Z3 h1]at h;by_cases h2:VI o.peer 9=true
 rotate_left
 ·simp[h2]at h
 simp only[h2,Bool.not_true,Bool.false_eq_true,if_false]at h;have hp:=(XO _ _).1 h2;by_cases h3:o.kind=2
 ·rw[ZU h3]at h;exact⟨Zo,hp,fun _=>h,fun e=>absurd h3 e,Zo,Zo,Zo,Zo⟩
 rw[Z3 h3]at h;by_cases h4:Y_ R o.peer=true
 rotate_left
 ·simp[h4]at h
 simp only[h4,Bool.not_true,Bool.false_eq_true,if_false]at h;by_cases h5:o.kind=3
 ·exact⟨Zo,hp,Zo,fun _=>h4,Zo,Zo,Zo,Zo⟩
 rw[Z3 h5]at h;by_cases h6:VI o.source 9=true
 rotate_left
 ·simp[h6]at h
 simp only[h6,Bool.not_true,Bool.false_eq_true,if_false]at h;have hs:=(XO _ _).1 h6;by_cases h7:o.kind=4
 ·rw[ZU h7]at h;exact⟨Zo,hp,Zo,fun _=>h4,fun _=>hs,fun _=>h,Zo,Zo⟩
 rw[Z3 h7]at h;by_cases h8:(R.src o.source.toNat).there=true
 rotate_left
 ·simp[h8]at h
 simp only[h8,Bool.not_true,Bool.false_eq_true,if_false]at h;exact⟨Zo,hp,Zo,fun _=>h4,fun _=>hs,Zo,fun _=>h8,fun _=>h⟩
theorem O4{R:Room}{o:Op}(h:ZI R o=0):0≤o.ZI∧o.ZI<(R.src o.source.toNat).ss.length:=by
 unfold ZI at h;by_cases h1:o.ZI<0∨((R.src o.source.toNat).ss.length:Int)≤o.ZI
 ·rw[ZU h1]at h;exact absurd h Zd
 ·omega
theorem OE{R:Room}{o:Op}(h:about R o=0)(hk:o.kind=6):(R.src o.source.toNat).own≠o.peer∧(R.sub o.source.toNat o.peer.toNat).there=false∧ZI R o=0:=by
 unfold about at h;dsimp only at h;rw[Z3 Zo,ZU hk]at h;by_cases h1:(R.src o.source.toNat).own=o.peer
 ·rw[ZU h1]at h;exact absurd h Zd
 rw[Z3 h1]at h;cases ht:(R.sub o.source.toNat o.peer.toNat).there
 ·rw[ht]at h;exact⟨h1,rfl,h⟩
 ·rw[ht]at h;simp at h
theorem Ty{R:Room}{o:Op}(h:about R o=0)(hk:o.kind=7∨10≤o.kind) :
  (R.sub o.source.toNat o.peer.toNat).there=true∧(o.kind=10→(R.sub o.source.toNat o.peer.toNat).ZV=false)∧(o.kind=11→(R.sub o.source.toNat o.peer.toNat).ZV=true)∧(o.kind=12→ZI R o=0∧(R.sub o.source.toNat o.peer.toNat).want≠o.ZI):=by
 unfold about at h;dsimp only at h;rw[Z3 Zo,Z3 Zo]at h;unfold heard at h;dsimp only at h;cases ht:(R.sub o.source.toNat o.peer.toNat).there
 ·rw[ht]at h;simp at h
 rw[ht]at h;simp only[Bool.not_true,Bool.false_eq_true,if_false]at h;refine⟨rfl,?_,?_,?_⟩
 ·intro GP;cases hm:(R.sub o.source.toNat o.peer.toNat).ZV
  ·rfl
  ·rw[ZU ⟨GP,hm⟩]at h;exact absurd h Zd
 ·intro h11;rw[Z3 Zo]at h;cases hm:(R.sub o.source.toNat o.peer.toNat).ZV
  ·rw[ZU ⟨h11,hm⟩]at h;exact absurd h Zd
  ·rfl
 ·intro h12;rw[Z3 Zo,Z3 Zo,Z3 Zo]at h;by_cases hl:ZI R o=0
  ·rw[Z3 Zo]at h;refine⟨hl,fun e=>?_⟩;rw[ZU e]at h;exact absurd h Zd
  ·rw[ZU hl]at h;exact absurd h hl
theorem I9(l:List Int)(x:Int):0≤index l x↔x∈l:=by
 unfold index;cases h:l.findIdx? (fun y=>y==x)with
 | none=>
  have:=List.findIdx?_eq_none_iff.1 h;constructor
  ·intro h;exact absurd h Zd
  ·intro hx;have:=this x hx;simp at this
 | some i=>
  obtain⟨hi,h1,_⟩:=List.findIdx?_eq_some_iff_getElem.1 h;have h1:l[i]=x:=by simpa using h1
  exact⟨fun _=>by rw[←h1];exact OC hi,fun _=>n7 _⟩
theorem Dt(R:Room)(x:Int):∀k n,(RT R x k n).2.2=false↔∀m,n≤m→m<n+k→(R.src m).there=true→x ∉ (R.src m).ss
 | 0,n=>by simp[RT];omega
 | k+1,n=>by
  unfold RT;by_cases hc:((R.src n).there&&decide (0≤index (R.src n).ss x))=true
  ·rw[ZU hc];rw[UW,Sz,I9]at hc;constructor
   ·intro h;cases h
   ·intro h;exact absurd hc.2 (h n (Zw _) Zo hc.1)
  ·rw[Z3 hc,Dt R x k (n+1)];rw[UW,Sz,I9]at hc;constructor
   ·intro h m h1 h2 h3 h4;by_cases e:m=n
    ·subst e;exact hc ⟨h3,h4⟩
    ·exact h m Zo Zo h3 h4
   ·intro h m h1 h2;exact h m Zo Zo
theorem sS{R:Room}{x:Int}:(of R x).2.2=false↔∀m,m<9→(R.src m).there=true→x ∉ (R.src m).ss:=by
 unfold of;rw[Dt];exact⟨fun h m hm=>h m (TH _) Zo,fun h m _ hm=>h m Zo⟩
theorem Du(R:Room)(x:Int):∀k n,(RT R x k n).2.2=true→∃m:Nat,n≤m∧m<n+k∧(R.src m).there=true∧x∈(R.src m).ss∧RT R x k n=((m:Int),index (R.src m).ss x,true)
 | 0,n,h=>by simp[RT]at h
 | k+1,n,h=>by
  unfold RT at h ⊢;by_cases hc:((R.src n).there&&decide (0≤index (R.src n).ss x))=true
  ·rw[ZU hc]at h ⊢;rw[UW,Sz,I9]at hc;exact⟨n,Zw _,Zo,hc.1,hc.2,rfl⟩
  ·rw[Z3 hc]at h ⊢;obtain⟨m,h1,h2,h3⟩:=Du R x k (n+1) h;exact⟨m,Zo,Zo,h3⟩
theorem PI{R:Room}{x:Int}(h:(of R x).2.2=true):∃m:Nat,m<9∧(R.src m).there=true∧x∈(R.src m).ss∧of R x=((m:Int),index (R.src m).ss x,true):=by
 obtain⟨m,_,h2,h3⟩:=Du R x 9 0 h;exact⟨m,Zo,h3⟩
theorem F4(l:List Int)(h:∀i,i<l.length→(l.take i).contains (l.getD i 0)=false):l.Nodup:=by
 unfold List.Nodup;rw[List.pairwise_iff_getElem];intro i j hi hj hij e;have:=h j hj;rw[Q_,Ve hj,Option.getD_some]at this;rw[←e]at this
 have hm:l[i]∈l.take j:=by
  rw[List.mem_iff_getElem];exact⟨i,by rw[SY];omega,by rw[List.getElem_take]⟩
 rw[List.contains_iff_mem.2 hm]at this;cases this
theorem Gd{R:Room}{o:Op}(h:VR R o=0):1≤o.ZK.length∧o.ZK.length≤3∧(∀s∈o.ZK,2≤s∧s<3221225472)∧(R.src o.source.toNat).there=false∧o.ZK.Nodup∧∀m x,m<9→(R.src m).there=true→x∈o.ZK→x ∉ (R.src m).ss:=by
 unfold VR at h;by_cases h1:o.ZK.length<1∨3<o.ZK.length
 ·rw[ZU h1]at h;exact absurd h Zd
 rw[Z3 h1]at h;by_cases h2:o.ZK.any (fun s=>decide (s<2)||decide (3221225472≤s))=true
 ·rw[ZU h2]at h;exact absurd h Zd
 rw[Z3 h2]at h;by_cases h3:(R.src o.source.toNat).there=true
 ·rw[ZU h3]at h;exact absurd h Zd
 rw[Z3 h3]at h;by_cases h4:(List.range o.ZK.length).any (Vu R o.ZK)=true
 ·rw[ZU h4]at h;exact absurd h Zd
 have h5:∀i,i<o.ZK.length→(of R (o.ZK.getD i 0)).2.2=false∧(o.ZK.take i).contains (o.ZK.getD i 0)=false:=by
  intro i hi;have:¬Vu R o.ZK i=true:=fun e=>h4 (List.any_eq_true.2 ⟨i,by simpa using hi,e⟩)
  unfold Vu at this;rw[Bool.or_eq_true]at this;exact⟨J8.2 fun e=>this (WO e),J8.2 fun e=>this (WB e)⟩
 refine⟨Zo,Zo,?_,by simpa using h3,F4 _ fun i hi=>(h5 i hi).2,?_⟩
 ·intro s hs;have:¬(decide (s<2)||decide (3221225472≤s))=true:=fun e=>h2 (List.any_eq_true.2 ⟨s,hs,e⟩)
  simp at this;omega
 ·intro m x hm ht hx;obtain⟨i,hi,rfl⟩:=List.getElem_of_mem hx;have:=(h5 i hi).1;rw[Q_,Ve hi,Option.getD_some,sS]at this;exact this m hm ht
theorem sJ{R:Room}{o:Op}(h:L_ R o=0):Y_ R o.peer=false∧may o.name=true∧∀q,q<9→R.names q≠[]→key (R.names q)≠key o.name:=by
 unfold L_ at h;cases h1:Y_ R o.peer
 rotate_left
 ·rw[h1]at h;simp at h
 rw[h1]at h;cases h2:may o.name
 ·rw[h2]at h;simp at h
 rw[h2]at h;simp only[Bool.false_eq_true,if_false,Bool.not_true]at h;by_cases h3:(List.range 9).any (sameKey R o)=true
 ·rw[ZU h3]at h;exact absurd h Zd
 refine⟨rfl,rfl,fun q hq hn e=>h3 (List.any_eq_true.2 ⟨q,by simpa using hq,?_⟩)⟩;unfold sameKey;simp[hn,e]
theorem mM{l:List UInt8}(h:may l=true):l≠[]:=by rintro rfl;cases h
theorem Tk:Inv empty:=by
 refine⟨⟨rfl,rfl⟩,?_,?_,?_,?_,?_⟩
 ·intro n p h;cases h
 ·intro n h;cases h
 ·intro n m x h;cases h
 ·intro p h;exact absurd rfl h
 ·intro p q h;exact absurd rfl h
theorem mE{R:Room}(hI:Inv R){p:Nat}{nm:List UInt8}(hp:1≤p∧p<9)(h0:R.names p=[])(hm:may nm=true)(hk:∀q,q<9→R.names q≠[]→key (R.names q)≠key nm):Inv (R.setName p nm):=by
 have hjoin:∀q,Y_ R q=true→Y_ (R.setName p nm) q=true:=by
  intro q h;unfold Y_ at h ⊢;rw[UW]at h ⊢;refine⟨h.1,?_⟩;rw[X6];split
  ·have:=mM hm;simp[this]
  ·exact h.2
 refine⟨⟨?_,hI.QN.2⟩,?_,?_,hI.apart,?_,?_⟩
 ·rw[X6,Z3 Zo];exact hI.QN.1
 ·intro n q h;have:=hI.Y6 n q h;have hq:q≠p:=by rintro rfl;exact this.2.2.2.2.2.1 h0
  rw[X6,Z3 hq];exact this
 ·intro n h;obtain⟨h1,h2,h3,h4,h5⟩:=hI.YV n h;exact⟨h1,h2,h3,hjoin _ h4,h5⟩
 ·intro q h;rw[X6]at h ⊢;by_cases hq:q=p
  ·rw[ZU hq];exact⟨Zo,hm⟩
  ·rw[Z3 hq]at h ⊢;exact hI.nameAt q h
 ·intro q r h e;rw[X6]at h;rw[X6,X6]at e;by_cases hq:q=p
  ·rw[ZU hq]at e;by_cases hr:r=p
   ·omega
   ·rw[Z3 hr]at e;by_cases hn:R.names r=[]
    ·rw[hn]at e;exact absurd e (FR hm)
    ·exact absurd e.symm (hk r (hI.nameAt r hn).1 hn)
  ·rw[Z3 hq]at h e;by_cases hr:r=p
   ·rw[ZU hr]at e;exact absurd e (hk q (hI.nameAt q h).1 h)
   ·rw[Z3 hr]at e;exact hI.keys q r h e
theorem yJ{R:Room}(hI:Inv R){n p:Nat}{sv:Value}{ss:List Int}(hn:1≤n∧n<9)(hp:Y_ R p=true)(h0:(R.src n).there=false)(h1:1≤ss.length)(h3:ss.length≤3)(hr:∀s∈ss,2≤s∧s<3221225472)(hd:ss.Nodup)(hx:∀m x,m<9→(R.src m).there=true→x∈ss→x ∉ (R.src m).ss) :
  Inv (R.Y0 n ⟨true,n,p,sv,ss,false⟩):=by
 refine⟨⟨hI.QN.1,?_⟩,?_,?_,?_,hI.nameAt,hI.keys⟩
 ·rw[Wq,Z3 Zo];exact hI.QN.2
 ·intro m q h;have:=hI.Y6 m q h;have hm:m≠n:=by rintro rfl;rw[h0]at this;exact absurd this.2.2.2.2.1 Zd
  rw[Wq,Z3 hm];exact this
 ·intro m h;rw[Wq]at h ⊢;by_cases hm:m=n
  ·rw[ZU hm];exact⟨Zo,Zo,by rw[hm],hp,h1,h3,hd,hr⟩
  ·rw[Z3 hm]at h ⊢;exact hI.YV m h
 ·intro m k x a b c d;rw[Wq]at a b c d;by_cases hm:m=n
  ·by_cases hk:k=n
   ·omega
   ·rw[Z3 hk]at b d;rw[ZU hm]at c;exact absurd d (hx k x (hI.YV k b).2.1 b c)
  ·rw[Z3 hm]at a c;by_cases hk:k=n
   ·rw[ZU hk]at d;exact absurd c (hx m x (hI.YV m a).2.1 a d)
   ·rw[Z3 hk]at b d;exact hI.apart m k x a b c d
theorem GZ{R:Room}(hI:Inv R){n p:Nat}{x:Sub}(h:x.there=true→1≤n∧n<9∧1≤p∧p<9∧(R.src n).there=true∧R.names p≠[]∧(R.src n).own≠p∧0≤x.want∧x.want<(R.src n).ss.length):Inv (R.ZQ n p x):=by
 refine⟨hI.QN,?_,hI.YV,hI.apart,hI.nameAt,hI.keys⟩;intro m q ht;rw[VL]at ht ⊢;by_cases h1:m=n∧q=p
 ·rw[ZU h1]at ht ⊢;rw[h1.1,h1.2];exact h ht
 ·rw[Z3 h1]at ht ⊢;exact hI.Y6 m q ht
theorem De{R:Room}(hI:Inv R)(n:Nat)(on:Bool):Inv (R.Y0 n {R.src n with ZN:=on}):=by
 have key:∀m,((R.Y0 n {R.src n with ZN:=on}).src m).there=(R.src m).there∧((R.Y0 n {R.src n with ZN:=on}).src m).ss=(R.src m).ss∧((R.Y0 n {R.src n with ZN:=on}).src m).own=(R.src m).own∧((R.Y0 n {R.src n with ZN:=on}).src m).num=(R.src m).num:=by
  intro m;rw[Wq];split
  ·rename_i h;subst h;exact⟨rfl,rfl,rfl,rfl⟩
  ·exact⟨rfl,rfl,rfl,rfl⟩
 refine⟨⟨hI.QN.1,?_⟩,?_,?_,?_,hI.nameAt,hI.keys⟩
 ·rw[(key 0).1];exact hI.QN.2
 ·intro m q h;rw[(key m).1,(key m).2.1,(key m).2.2.1];exact hI.Y6 m q h
 ·intro m h;rw[(key m).1]at h;rw[(key m).2.1,(key m).2.2.1,(key m).2.2.2];exact hI.YV m h
 ·intro m k x a b c d;rw[(key m).1]at a;rw[(key k).1]at b;rw[(key m).2.1]at c;rw[(key k).2.1]at d;exact hI.apart m k x a b c d
theorem qA{R:Room}{o:Op}(hI:Inv R)(ok:Ok R o)(sv:Value):Inv (turns R o sv).2:=by
 obtain⟨kd,p,n,q,nm,ss⟩:=o;obtain⟨hk,hp,hj,ht,hs,uJ,gS,LF⟩:=ok;dsimp only at *
 obtain⟨p,rfl⟩:=Rw (show 0≤p by omega);by_cases k2:kd=2
 ·subst k2;obtain⟨h1,h2,h3⟩:=sJ (hj rfl);show Inv (R.setName p nm);refine mE hI (p:=p) Zo ?_ h2 h3;rw[J8,ne_eq,FP]at h1;exact Classical.not_not.1 fun e=>h1 ⟨Zo,Zo,e⟩
 have hjp:=FP.1 (ht k2);by_cases k3:kd=3
 ·subst k3;show Inv (leave R p).2;exact qz hI p
 obtain⟨n,rfl⟩:=Rw (show 0≤n by have:=hs Zo;omega);have hn:=hs Zo;by_cases k4:kd=4
 ·subst k4;obtain⟨h1,h2,h3,h4,h5,h6⟩:=Gd (uJ rfl);show Inv (R.Y0 n ⟨true,n,p,sv,ss,false⟩);exact yJ hI Zo (ht k2) h4 h1 h2 h3 h5 h6
 have gS:=gS Zo;have his':(R.src n).there=true:=by rw[Wl]at gS;exact gS
 have LF:=LF Zo;have R7:(R.sub n p).there=true→1≤n∧n<9∧1≤p∧p<9∧(R.src n).there=true∧R.names p≠[]∧(R.src n).own≠p∧0≤(R.sub n p).want∧(R.sub n p).want<(R.src n).ss.length:=hI.Y6 n p;by_cases k5:kd=5
 ·subst k5;show Inv (gone R n).2;exact FK hI n
 by_cases k6:kd=6
 ·subst k6;obtain⟨h1,h2,h3⟩:=OE LF rfl;have h4:=O4 h3;show Inv (R.ZQ n p ⟨true,false,q⟩);exact GZ hI fun _=>⟨Zo,Zo,Zo,Zo,his',hjp.2.2,h1,h4.1,h4.2⟩
 by_cases k7:kd=7
 ·subst k7;show Inv (R.ZQ n p U9);exact sI hI n p
 by_cases k8:kd=8
 ·subst k8;show Inv (R.Y0 n {R.src n with ZN:=true});exact De hI n true
 by_cases k9:kd=9
 ·subst k9;show Inv (R.Y0 n {R.src n with ZN:=false});exact De hI n false
 obtain⟨h1,_,_,h4⟩:=Ty LF (by right;show 10≤kd;omega);have hb:=R7 h1;by_cases k10:kd=10
 ·subst k10;show Inv (R.ZQ n p {R.sub n p with ZV:=true});exact GZ hI fun _=>hb
 by_cases k11:kd=11
 ·subst k11;show Inv (R.ZQ n p {R.sub n p with ZV:=false});exact GZ hI fun _=>hb
 have k12:kd=12:=by omega
 subst k12;have h5:=O4 (h4 rfl).1;show Inv (R.ZQ n p {R.sub n p with want:=q});exact GZ hI fun _=>⟨hb.1,hb.2.1,hb.2.2.1,hb.2.2.2.1,hb.2.2.2.2.1,hb.2.2.2.2.2.1,hb.2.2.2.2.2.2.1,h5.1,h5.2⟩
theorem Bh{R:Room}(hI:Inv R)(o:Op)(sv:Value):Inv (WG R o sv).1.2:=by
 unfold WG;by_cases h:XW R o=0
 ·rw[Z3 (by simpa using h)];exact qA hI (Pn h) sv
 ·rw[ZU h];exact hI
theorem LK{R:Room}(hI:Inv R)(p x:Int):Inv (YW R p x).1.2:=by
 unfold YW;split
 ·exact hI
 ·exact FK hI _
def Src.bare(s:Src):Src:={s with sv:= .slice none 0 0}
def Room.bare(R:Room):Room:=⟨R.names,fun n=>(R.src n).bare,R.sub⟩
theorem Ds(R:Room)(x:Int):∀k n,RT R.bare x k n=RT R x k n
 | 0,_=>rfl
 | k+1,n=>by
  show(if(R.src n).there&&decide (0≤index (R.src n).ss x)then((n:Int),index (R.src n).ss x,true)else RT R.bare x k (n+1))=_;rw[Ds R x k (n+1)];rfl
theorem KM(R:Room)(x:Int):of R.bare x=of R x:=Ds R x 9 0
theorem vZ(R:Room)(l:List Int):Vu R.bare l=Vu R l:=by
 funext i;unfold Vu;rw[KM]
theorem Ge(R:Room)(o:Op):VR R.bare o=VR R o:=by
 unfold VR;rw[vZ];rfl
theorem wj(R:Room)(o:Op):XW R.bare o=XW R o:=by
 unfold XW;rw[Ge];rfl
theorem PA(R:Room)(n:Nat)(x:Src):(R.Y0 n x).bare=R.bare.Y0 n x.bare:=by
 unfold Room.Y0 Room.bare
 congr 1
 funext m;dsimp only;split <;> rfl
theorem Ib(n:Nat):∀l R,Xk n l R.bare=((Xk n l R).1,(Xk n l R).2.bare)
 | [],R=>rfl
 | p :: l,R=>by
  have ih:=Ib n l (R.ZQ n p U9);show((⟨3,p,n,0,0⟩:YF) :: ⟨2,p,n,0,0⟩ :: (Xk n l (R.ZQ n p U9).bare).1,(Xk n l (R.ZQ n p U9).bare).2)=_;rw[ih];rfl
theorem Mx(R:Room)(n:Nat):gone R.bare n=((gone R n).1,(gone R n).2.bare):=by
 unfold gone;dsimp only;rw[show ZY R.bare n=ZY R n from rfl,Ib,PA];rfl
theorem Iw(p:Nat)(R:Room):∀k,ZL p R.bare k=((ZL p R k).1,(ZL p R k).2.bare)
 | 0=>rfl
 | k+1=>by
  have ih:=Iw p R k;unfold ZL;dsimp only;rw[ih];dsimp only;show(if((ZL p R k).2.sub k p).there=true then _ else _)=_;split <;> rfl
theorem Iy(R:Room)(p:Nat):∀k,ZH R.bare p k=((ZH R p k).1,(ZH R p k).2.bare)
 | 0=>rfl
 | k+1=>by
  have ih:=Iy R p k;unfold ZH;dsimp only;rw[ih];dsimp only;rw[Mx];show(if((R.src k).there&&decide ((R.src k).own=p))=true then _ else _)=_;split <;> rfl
theorem uR(R:Room)(p:Nat):leave R.bare p=((leave R p).1,(leave R p).2.bare):=by
 unfold leave;rw[Iw,Iy];rfl
theorem t_(R:Room)(o:Op):begin R.bare o=((begin R o).1,(begin R o).2.bare):=rfl
theorem Dn(R:Room)(n:Nat)(on:Bool):mute R.bare n on=((mute R n on).1,(mute R n on).2.bare):=by
 have h:R.bare.Y0 n {R.bare.src n with ZN:=on}=(R.Y0 n {R.src n with ZN:=on}).bare:=by rw[PA];rfl
 unfold mute;dsimp only;rw[h];rfl
theorem vV(R:Room)(o:Op)(sv Ac:Value):(turns R.bare o Ac).1=(turns R o sv).1∧(turns R.bare o Ac).2.bare=(turns R o sv).2.bare:=by
 have bb:∀Q:Room,Q.bare.bare=Q.bare:=fun _=>rfl
 unfold turns;dsimp only;by_cases k2:o.kind=2
 ·rw[ZU k2,ZU k2];exact⟨rfl,rfl⟩
 rw[Z3 k2,Z3 k2];by_cases k3:o.kind=3
 ·rw[ZU k3,ZU k3,uR];exact⟨rfl,rfl⟩
 rw[Z3 k3,Z3 k3];by_cases k4:o.kind=4
 ·rw[ZU k4,ZU k4];exact⟨rfl,by rw[PA,PA];rfl⟩
 rw[Z3 k4,Z3 k4];by_cases k5:o.kind=5
 ·rw[ZU k5,ZU k5,Mx];exact⟨rfl,rfl⟩
 rw[Z3 k5,Z3 k5];by_cases k6:o.kind=6
 ·rw[ZU k6,ZU k6,t_];exact⟨rfl,rfl⟩
 rw[Z3 k6,Z3 k6];by_cases k7:o.kind=7
 ·rw[ZU k7,ZU k7];exact⟨rfl,rfl⟩
 rw[Z3 k7,Z3 k7];by_cases k8:o.kind=8
 ·rw[ZU k8,ZU k8,Dn];exact⟨rfl,rfl⟩
 rw[Z3 k8,Z3 k8];by_cases k9:o.kind=9
 ·rw[ZU k9,ZU k9,Dn];exact⟨rfl,rfl⟩
 rw[Z3 k9,Z3 k9];by_cases k10:o.kind=10
 ·rw[ZU k10,ZU k10];exact⟨rfl,rfl⟩
 rw[Z3 k10,Z3 k10];by_cases k11:o.kind=11
 ·rw[ZU k11,ZU k11];exact⟨rfl,rfl⟩
 rw[Z3 k11,Z3 k11];by_cases k12:o.kind=12
 ·rw[ZU k12,ZU k12];exact⟨rfl,rfl⟩
 rw[Z3 k12,Z3 k12];exact⟨rfl,rfl⟩
theorem x9(R:Room)(o:Op)(sv Ac:Value):(WG R.bare o Ac).1.1=(WG R o sv).1.1∧(WG R.bare o Ac).2=(WG R o sv).2∧(WG R.bare o Ac).1.2.bare=(WG R o sv).1.2.bare:=by
 unfold WG;rw[wj];by_cases h:XW R o=0
 ·rw[Z3 (by simpa using h),Z3 (by simpa using h)];obtain⟨h1,h2⟩:=vV R o sv Ac;exact⟨h1,rfl,h2⟩
 ·rw[ZU h,ZU h];exact⟨rfl,rfl,rfl⟩
end Go.Proofs.Rm
namespace Go.Proofs.Heap
open Go.RowKit
structure Fr(B:Nat)(S:Nat→Prop)(w w':World):Prop where
 os:w'.os=w.os
 tape:w'.tape=w.tape
 output:w'.output=w.output
 size:w.heap.size≤w'.heap.size
 block:∀k,k<B→¬S k→w'.heap[k]?=w.heap[k]?
def Pz:Nat→Prop:=fun _=>False
theorem Fr.Z6{B:Nat}{w w':World}(S:Nat→Prop)(h:Below B w w'):Fr B S w w':=⟨h.os,h.tape,h.output,h.size,fun k hk _=>h.block k hk⟩
theorem Fr.below{B:Nat}{w w':World}(h:Fr B Pz w w'):Below B w w':=⟨h.os,h.tape,h.output,h.size,fun k hk=>h.block k hk (fun x=>x)⟩
theorem Fr.refl(B:Nat)(S:Nat→Prop)(w:World):Fr B S w w:=⟨rfl,rfl,rfl,Zw _,fun _ _ _=>rfl⟩
theorem Fr.trans{B:Nat}{S:Nat→Prop}{a b c:World}(h:Fr B S a b)(k:Fr B S b c):Fr B S a c:=
 ⟨k.os.trans h.os,k.tape.trans h.tape,k.output.trans h.output,PX h.size k.size,fun i hi hs=>(k.block i hi hs).trans (h.block i hi hs)⟩
theorem Fr.mono{B B':Nat}{S S':Nat→Prop}{w w':World}(h:Fr B S w w')(hB:B'≤B)(hS:∀k,k<B'→S k→S' k):Fr B' S' w w':=
 ⟨h.os,h.tape,h.output,h.size,fun k hk hs=>h.block k (OB hk hB) (fun x=>hs (hS k hk x))⟩
theorem Fr.drew{B:Nat}{S:Nat→Prop}{a w:World}(h:Fr B S a w):Fr B S a w.drew:=⟨h.os,h.tape,h.output,h.size,h.block⟩
theorem Fr.alloc{B:Nat}{S:Nat→Prop}{a w:World}(h:Fr B S a w)(hB:B≤w.heap.size)(o:Obj):Fr B S a (w.alloc o):=
 h.trans ⟨rfl,rfl,rfl,by simp,fun k hk _=>Below.heap_alloc _ _ _ Zo⟩
theorem Fr.setCell{B:Nat}{S:Nat→Prop}{a w:World}(h:Fr B S a w){p:Addr}(hp:B≤p.block∨S p.block)(u:Value):Fr B S a (w.setCell p u):=
 h.trans ⟨rfl,rfl,rfl,by simp[World.setCell],fun k hk hs=>Below.heap_setCell _ _ _ _ (fun e=>by subst e;rcases hp with h|h;omega;exact hs h)⟩
theorem Fr.grown{B:Nat}{S:Nat→Prop}{a w w':World}{row:Option Nat}(h:Fr B S a w)(hg:w.grownBy w' row)(hB:B≤w.heap.size)(hr:∀k,row=some k→B≤k):Fr B S a w':=
 h.trans ⟨hg.os,hg.tape,hg.output,hg.size,fun k hk _=>hg.block k Zo (fun e=>by have:=hr k e.symm;omega)⟩
theorem Fr.cell{B:Nat}{S:Nat→Prop}{w w':World}(h:Fr B S w w'){p:Addr}(hp:p.block<B)(hs:¬S p.block):w'.cell? p=w.cell? p:=World.cell?_of_block (w:=w) (h.block p.block hp hs)
theorem Fr.frozen{B:Nat}{S:Nat→Prop}{w w':World}(h:Fr B S w w'){p:Addr}(hp:p.block<B)(hs:¬S p.block):w'.frozen? p=w.frozen? p:=World.frozen?_of_block (w:=w) (h.block p.block hp hs)
theorem SP{W w1:World}(hb:Below W W w1):(∀b o,b<W.heap.size→w1.cell? ⟨b,o,none⟩=W.cell? ⟨b,o,none⟩)∧(∀b o,b<W.heap.size→w1.frozen? ⟨b,o,none⟩=W.frozen? ⟨b,o,none⟩):=
 ⟨fun b o h=>hb.cell (p:=⟨b,o,none⟩) h,fun b o h=>hb.frozen (p:=⟨b,o,none⟩) h⟩
theorem Fr.setAt{B b:Nat}{a w:World}(h:Fr B (· = b) a w)(o:Nat)(u:Value):Fr B (· = b) a (w.setCell ⟨b,o,none⟩ u):=h.setCell (p:=⟨b,o,none⟩) (WB rfl) u
theorem Z'(w:World)(o:Obj):Below w w (w.alloc o):=(YI _ _).alloc (Zw _) _
theorem size_setCell(w:World)(a:Addr)(v:Value):(w.setCell a v).heap.size=w.heap.size:=by simp[World.setCell]
theorem size_alloc(w:World)(o:Obj):(w.alloc o).heap.size=w.heap.size+1:=by simp
def Row(w:World)(e:TypeId)(v:Value)(n:Nat)(xs:List Value):Prop:=
 ∃a cap,v = .slice a n cap∧n≤cap∧cap≤maxLen∧(a=none→n=0∧cap=0)∧(xs=[]∨∃b off c fr,a=some ⟨b,off,none⟩∧w.heap[b]?=some (.cells c e fr)∧∀j,j<xs.length→c[off+j]?=xs[j]?)
theorem Row.fr{B:Nat}{S:Nat→Prop}{w w':World}{e:TypeId}{v:Value}{n:Nat}{xs:List Value}(h:Row w e v n xs)(hf:Fr B S w w')(hB:w.heap.size≤B)(hS:∀k c fr,S k→w.heap[k]?≠some (.cells c e fr)):Row w' e v n xs:=by
 obtain⟨a,cap,hv,h1,h2,h0,h3⟩:=h;refine⟨a,cap,hv,h1,h2,h0,?_⟩;rcases h3 with h3|⟨b,off,c,fr,ha,hb,hc⟩
 ·exact WO h3
 ·have OT:b<w.heap.size:=by
   rcases Nat.lt_or_ge b w with h|h
   ·exact h
   ·rw[D_ h]at hb;cases hb
  exact WB ⟨b,off,c,fr,ha,by rw[hf.block b Zo (fun hs=>hS b c fr hs hb)];exact hb,hc⟩
theorem Row.below{w w':World}{e:TypeId}{v:Value}{n:Nat}{xs:List Value}(h:Row w e v n xs)(hb:Below w w w'):Row w' e v n xs:=
 h.fr (Fr.Z6 Pz hb) (Zw _) (fun _ _ _ h=>h.elim)
theorem Row.setCell{w:World}{e:TypeId}{v:Value}{n:Nat}{xs:List Value}(h:Row w e v n xs){p:Addr}{c:Array Value}{e2:TypeId}{f:Nat×Nat}(hp:w.heap[p.block]?=some (.cells c e2 f))(WN:e≠e2)(u:Value):Row (w.setCell p u) e v n xs:=
 h.fr ((Fr.refl w (· = p.block) w).setCell (WB rfl) u) (Zw _) (fun k c' fr hk he=>by subst hk;rw[hp]at he;injection he with he;injection he with _ he _;exact WN he.symm)
theorem Z9(w:World)(o:Obj):(w.alloc o).heap[w.heap.size]?=some o:=by show(w.heap.push o)[w.heap.size]?=_;simp
theorem V4(w:World)(A B:Obj):((w.alloc A).alloc B).heap[w.heap.size]?=some A∧((w.alloc A).alloc B).heap[w.heap.size+1]?=some B:=by
 constructor
 ·rw[Below.heap_alloc _ _ _ Zi];exact Z9 w A
 ·have:=Z9 (w.alloc A) B
  rwa[World.size_alloc]at this
theorem Uo{c c':Array Value}{e e':TypeId}{f f':Nat×Nat}(h:e≠e'):some (Obj.cells c e f)≠some (Obj.cells c' e' f'):=by
 intro he;injection he with he;injection he with _ he _;exact h he
theorem Row.nil(w:World)(e:TypeId):Row w e (.slice none 0 0) 0 []:=⟨none,0,rfl,Zw _,TH _,fun _=>⟨rfl,rfl⟩,WO rfl⟩
theorem Row.Z4{w:World}{base:Nat}{e:TypeId}{size:Nat}{v:Value}{n:Nat}{xs:List Value}(h:w.ownsRow base e size v n xs):Row w e v n xs:=by
 obtain⟨hl,h⟩:=h;rcases h with⟨hv,hn⟩|⟨g,cap,cur,hv,_,hh,h1,h2,h3,h4⟩
 ·subst hn;have:xs=[]:=AH Zo;subst this;exact⟨none,0,hv,Zw _,TH _,fun _=>⟨rfl,rfl⟩,WO rfl⟩
 ·refine⟨some ⟨g,0,none⟩,cap,hv,h1,h2,(fun h=>by cases h),WB ⟨g,0,cur,_,rfl,hh,fun j hj=>?_⟩⟩;rw[PW,←h4,List.getElem?_take_of_lt Zo];simp
theorem SG(w:World)(e:TypeId)(size:Nat):(w.alloc (.cells #[] e)).ownsRow w e size (.slice (some ⟨w,0,none⟩) 0 0) 0 []:=
 ⟨by simp,.inr ⟨w,0,#[],rfl,Zw _,(by show(w.heap.push _)[w.heap.size]?=_;simp),Zw _,TH _,by simp,by simp⟩⟩
theorem Row.open{w:World}{e:TypeId}{v:Value}{n:Nat}{xs:List Value}(h:Row w e v n xs)(WN:0<xs.length):∃b off cap,v = .slice (some ⟨b,off,none⟩) n cap∧n≤cap∧cap≤maxLen∧b<w.heap.size∧∀j,j<xs.length→w.cell? ⟨b,off+j,none⟩=xs[j]?:=by
 obtain⟨a,cap,hv,h1,h2,_,h3⟩:=h;rcases h3 with h3|⟨b,off,c,fr,ha,hb,hc⟩
 ·subst h3;simp at WN
 ·subst ha
  have OT:b<w.heap.size:=by
   rcases Nat.lt_or_ge b w with h|h
   ·exact h
   ·rw[D_ h]at hb;cases hb
  refine⟨b,off,cap,hv,h1,h2,OT,fun j hj=>?_⟩;simp only[World.cell?,hb];exact hc j hj
theorem Row.len{w:World}{e:TypeId}{v:Value}{n:Nat}{xs:List Value}(h:Row w e v n xs):n≤9223372036854775807:=by
 obtain⟨a,cap,_,h1,h2,_,_⟩:=h;unfold maxLen at h2;omega
def XM(w:World)(v:Value)(n:Nat)(xs:List Value):Prop:=
 ∃a cap,v = .slice a n cap∧n≤cap∧cap≤maxLen∧(a=none→n=0∧cap=0)∧(xs=[]∨∃b off,a=some ⟨b,off,none⟩∧b<w.heap.size∧∀j,j<xs.length→w.cell? ⟨b,off+j,none⟩=xs[j]?)
theorem XM.below{w w':World}{v:Value}{n:Nat}{xs:List Value}(h:XM w v n xs)(hb:Below w w w'):XM w' v n xs:=by
 obtain⟨a,cap,hv,h1,h2,h0,h3⟩:=h;refine⟨a,cap,hv,h1,h2,h0,?_⟩;rcases h3 with h3|⟨b,off,ha,OT,hc⟩
 ·exact WO h3
 ·exact WB ⟨b,off,ha,OB OT hb.size,fun j hj=>(hb.cell (p:=⟨b,off+j,none⟩) OT).trans (hc j hj)⟩
theorem XM.len{w:World}{v:Value}{n:Nat}{xs:List Value}(h:XM w v n xs):n≤9223372036854775807:=by
 obtain⟨a,cap,_,h1,h2,_,_⟩:=h;unfold maxLen at h2;omega
theorem XM.open{w:World}{v:Value}{n:Nat}{xs:List Value}(h:XM w v n xs)(WN:0<xs.length):∃b off cap,v = .slice (some ⟨b,off,none⟩) n cap∧n≤cap∧cap≤maxLen∧b<w.heap.size∧∀j,j<xs.length→w.cell? ⟨b,off+j,none⟩=xs[j]?:=by
 obtain⟨a,cap,hv,h1,h2,_,h3⟩:=h;rcases h3 with h3|⟨b,off,ha,OT,hc⟩
 ·subst h3;simp at WN
 ·subst ha;exact⟨b,off,cap,hv,h1,h2,OT,hc⟩
theorem Row.r{w:World}{e:TypeId}{v:Value}{n:Nat}{xs:List Value}(h:Row w e v n xs):XM w v n xs:=by
 obtain⟨a,cap,hv,h1,h2,h0,h3⟩:=h;refine⟨a,cap,hv,h1,h2,h0,?_⟩;rcases h3 with h3|⟨b,off,c,fr,ha,hb,hc⟩
 ·exact WO h3
 ·refine WB ⟨b,off,ha,?_,fun j hj=>?_⟩
  ·rcases Nat.lt_or_ge b w with h|h
   ·exact h
   ·rw[D_ h]at hb;cases hb
  ·simp only[World.cell?,hb];exact hc j hj
theorem XM.nil(w:World):XM w (.slice none 0 0) 0 []:=⟨none,0,rfl,Zw _,TH _,fun _=>⟨rfl,rfl⟩,WO rfl⟩
theorem Mu{α:Type}(f:α→List Value)(k:Nat)(hk:∀x,(f x).length=k):∀(l:List α) (i j:Nat) (x:α),l[i]?=some x→j<k→(l.flatMap f)[i*k+j]?=(f x)[j]?
 | [],_,_,_,h,_=>by simp at h
 | y :: l,0,j,x,h,hj=>by
  simp only[Sy,Option.some.injEq]at h;subst h;rw[List.flatMap_cons,Nat.zero_mul,PW,List.getElem?_append_left (by rw[hk];exact hj)]
 | y :: l,i+1,j,x,h,hj=>by
  rw[R4]at h;rw[List.flatMap_cons,Z1d (by rw[hk,Nat.succ_mul];omega),hk,show(i+1)*k+j-k=i*k+j by rw[Nat.succ_mul];omega];exact Mu f k hk l i j x h hj
theorem XN{α:Type}(f:α→List Value)(k:Nat)(hk:∀x,(f x).length=k)(l:List α):(l.flatMap f).length=l.length*k:=by
 induction l with
 | nil=>simp
 | cons y l ih=>rw[List.flatMap_cons,UG,hk,ih,List.length_cons,Nat.succ_mul];omega
end Go.Proofs.Heap
namespace Go.Proofs.By
open Go.RowKit Go.Proofs.Heap
def Rx(l:List UInt8):List Value:=l.map fun b=>Value.int .u8 (b.toNat:Int)
theorem Xg(l:List UInt8):(Rx l).length=l.length:=Tx _
theorem OH(l:List UInt8)(k:Nat):(Rx l).take k=Rx (l.take k):=(List.map_take).symm
theorem QA(l:List UInt8)(k:Nat):(Rx l).drop k=Rx (l.drop k):=(List.map_drop).symm
theorem AR(l:List UInt8):∀u∈Rx l,u.oneCell'=true:=by
 intro u hu;obtain⟨b,_,rfl⟩:=wI.1 hu;rfl
def be(l:List UInt8):Nat:=l.foldl (fun n x=>n*256+x.toNat) 0
theorem fQ(l:List UInt8)(x:UInt8):be (l++[x])=be l*256+x.toNat:=by unfold be;rw[List.foldl_append];rfl
theorem cM:∀(l:List UInt8) (n:Nat),l.foldl (fun n x=>n*256+x.toNat) n<(n+1)*256 ^ l.length
 | [],n=>by simp
 | x :: l,n=>by
  have ih:=cM l (n*256+x.toNat);have hx:=x.toNat_lt;rw[List.foldl_cons,List.length_cons,Nat.pow_succ,Nat.mul_comm (256 ^ l.length),←Nat.mul_assoc];exact OB ih (Nat.mul_le_mul_right _ Zo)
theorem Ca(l:List UInt8):be l<256 ^ l.length:=by
 have:=cM l 0;rw[PW,Nat.one_mul]at this;exact this
theorem be_lt7{l:List UInt8}(h:l.length≤7):be l<72057594037927936:=
 OB (Ca l) (PX (Nat.pow_le_pow_right Zd h) Zd)
theorem be_lt4{l:List UInt8}(h:l.length≤4):be l<4294967296:=
 OB (Ca l) (PX (Nat.pow_le_pow_right Zd h) Zd)
theorem be_lt3{l:List UInt8}(h:l.length≤3):be l<16777216:=
 OB (Ca l) (PX (Nat.pow_le_pow_right Zd h) Zd)
theorem be_lt2{l:List UInt8}(h:l.length≤2):be l<65536:=
 OB (Ca l) (PX (Nat.pow_le_pow_right Zd h) Zd)
theorem ir(n:Nat)(x:UInt8)(h:n<72057594037927936):bits .or .u64 ((n:Int)*256) (x.toNat:Int)=((n*256+x.toNat:Nat):Int):=by
 have hx:=x.toNat_lt;have e:((n:Int)*256)=((n*256:Nat):Int):=by omega
 rw[e,u64_or_nat (n*256) x.toNat Zo Zo,nat_join 8 (n*256) x.toNat Zo Zo]
def within(len:Nat)(at' size:Int):Bool:=decide (1≤size)&&decide (size≤8)&&decide (0≤at')&&decide (at'≤(len:Int)-size)
theorem within_iff{len:Nat}{at' size:Int}:within len at' size=true↔1≤size∧size≤8∧0≤at'∧at'+size≤len:=by
 unfold within;simp only[UW,Sz];omega
def get(b:List UInt8)(at' size:Int):Nat:=if within b.length at' size then be ((b.drop at'.toNat).take size.toNat)else 0
end Go.Proofs.By
namespace Go.Proofs.Heap
open Go Go.RowKit
section
variable {P:Program}
structure Elem(P:Program)(t e:TypeId)(size bytes:Nat):Prop where
 ht:P.underlying t=some (.slice e)
 info:∃z,(P.info? e).map (fun i=>(i.zero,i.size,i.bytes))=some (some z,size,bytes)∧z.cells.size=size
 pos:0<size
theorem YO{ops:Array Oper}{rest:List Oper}{o:Oper}{a:Act}{w:World}{Q:Exit→Act→World→Prop}(LH:o.guard=none)(s x:Operand)(t:TypeId)
  (ho:o.op = .call {callee:= .builtin .append,args:=#[s,x],argTypes:=#[t,t]})
  (base:Nat) {e:TypeId} {size bytes:Nat} (E:Elem P t e size bytes)
  (v:Value) (n:Nat) (xs:List Value) (hs:a.eval s=v) (YG:w.ownsRow base e size v n xs)
  (vx:Value) (m:Nat) (news:List Value) (hx:a.eval x=vx) (ZW:Row w e vx m news) (hl:news.length=m*size) (h1:∀u∈news,u.oneCell'=true)
  (Ur:(n+m)*bytes≤140737488355328) (kZ:n+m≤9223372036854775807) (R7:base≤w.heap.size)
  (h:∀v' w',Hid (w'.ownsRow base e size v' (n+m) (xs++news))→Hid (w.grownBy w' v.ownBlock)→wpList P ops Q rest (a.put o.dst v') w'):wpList P ops Q (o :: rest) a w:=by
 obtain⟨z,UB,iY⟩:=E.info;obtain⟨i,hi,hz,Sc,lF⟩:=info_parts UB;obtain⟨ad,cap,hv,_,_,h0,hr⟩:=ZW;subst hv;have uw:n+m≤maxLen:=by unfold maxLen;omega
 cases ad with
 | none=>
  exact Yx94
 | some ad=>
  refine wpList_append_own w LH s x t ho base e i z size bytes E.ht hi hz Sc lF iY E.pos v n xs hs YG ad m cap news hx hl ?_ h1 uw Ur R7 (fun v' w' h2 h3 _=>h v' w' h2 h3);intro j u hu;rcases hr with hr|⟨b,off,c,fr,Sn,hb,hc⟩
  ·subst hr;simp at hu
  ·cases Sn;have hj:j<news.length:=(List.getElem?_eq_some_iff.1 hu).1;have:=hc j hj;have MT:(⟨b,off,none⟩:Addr).add j=⟨b,off+j,none⟩:=by unfold Addr.add;split <;> simp_all
   rw[MT];simp only[World.cell?,hb];simpa[hu]using this
theorem PU{ops:Array Oper}{rest:List Oper}{o:Oper}{a:Act}{w:World}{Q:Exit→Act→World→Prop}(LH:o.guard=none)(s x:Operand)(t:TypeId)
  (ho:o.op = .call {callee:= .builtin .append,args:=#[s,x],argTypes:=#[t,t]})
  (base:Nat) {e:TypeId} {size bytes:Nat} (E:Elem P t e size bytes)
  (v:Value) (n:Nat) (xs:List Value) (hs:a.eval s=v) (YG:w.ownsRow base e size v n xs)
  (vx:Value) (m:Nat) (news:List Value) (hx:a.eval x=vx) (ZW:XM w vx m news) (hl:news.length=m*size) (h1:∀u∈news,u.oneCell'=true)
  (Ur:(n+m)*bytes≤140737488355328) (kZ:n+m≤9223372036854775807) (R7:base≤w.heap.size)
  (h:∀v' w',Hid (w'.ownsRow base e size v' (n+m) (xs++news))→Hid (w.grownBy w' v.ownBlock)→wpList P ops Q rest (a.put o.dst v') w'):wpList P ops Q (o :: rest) a w:=by
 obtain⟨z,UB,iY⟩:=E.info;obtain⟨i,hi,hz,Sc,lF⟩:=info_parts UB;obtain⟨ad,cap,hv,_,_,h0,hr⟩:=ZW;subst hv;have uw:n+m≤maxLen:=by unfold maxLen;omega
 cases ad with
 | none=>
  exact Yx94
 | some ad=>
  refine wpList_append_own w LH s x t ho base e i z size bytes E.ht hi hz Sc lF iY E.pos v n xs hs YG ad m cap news hx hl ?_ h1 uw Ur R7 (fun v' w' h2 h3 _=>h v' w' h2 h3);intro j u hu;rcases hr with hr|⟨b,off,Sn,OT,hc⟩
  ·subst hr;simp at hu
  ·cases Sn;have hj:j<news.length:=(List.getElem?_eq_some_iff.1 hu).1;have:=hc j hj;have MT:(⟨b,off,none⟩:Addr).add j=⟨b,off+j,none⟩:=by unfold Addr.add;split <;> simp_all
   rw[MT,this];exact hu
end
section
variable {P:Program}
theorem Elem.BF{t e:TypeId}{size bytes:Nat}(E:Elem P t e size bytes)(w:World):(sizeOf (P.elem t)).run P w = .ok size w:=by
 obtain⟨z,UB,_⟩:=E.info;obtain⟨i,hi,_,Sc,_⟩:=info_parts UB;have he:P.elem t=e:=by simp[Program.elem,E.ht]
 rw[he];simp[sizeOf,typeInfo,hi,Sc]
theorem Elem.under{t e:TypeId}{size bytes:Nat}(E:Elem P t e size bytes):P.underlying t=some (.slice (P.elem t)):=by
 have he:P.elem t=e:=by simp[Program.elem,E.ht]
 rw[he];exact E.ht
theorem Sk{t e:TypeId}{size bytes:Nat}(E:Elem P t e size bytes)(a:Option Addr)(n cap k:Nat)(hk:k≤cap) :
  ∃a',(∀w,(Instr.slice t (.slice a n cap) none (some (.int .i64 (k:Int))) none).run P w = .ok (.slice a' k cap) w) ∧
   (∀w xs,k≤n→xs.length=n*size→Row w e (.slice a n cap) n xs→Row w e (.slice a' k cap) k (xs.take (k*size))) ∧
   (∀w xs,k≤n→xs.length=n*size→XM w (.slice a n cap) n xs→XM w (.slice a' k cap) k (xs.take (k*size))):=by
 have MT:∀(b off:Nat),(⟨b,off,none⟩:Addr).add (0*size)=⟨b,off,none⟩:=fun b off=>by simp[Addr.add]
 have ha:∀b off:Nat,a=some ⟨b,off,none⟩→(if cap=0 then a else a.map (·.add (0*size)))=some ⟨b,off,none⟩:=fun b off h=>by
  subst h;split
  ·rfl
  ·simp[Addr.add]
 refine⟨if cap=0 then a else a.map (·.add (0*size)),fun w=>?_,?_,?_⟩
 ·rw[run_slice_h w t a n cap E.under .i64 (k:Int) Zo Zo,E.BF];simp[Result.andThen,sliced]
 ·rintro w xs hkn hl ⟨a2,cap2,hv,h1,h2,h0,h3⟩;cases hv;refine⟨_,cap,rfl,hk,h2,?_,?_⟩
  ·exact fw
  ·rcases h3 with h3|⟨b,off,c,fr,Sn,hb,hc⟩
   ·subst h3;simp
   ·refine WB ⟨b,off,c,fr,ha b off Sn,hb,fun j hj=>?_⟩;rw[SY]at hj;rw[hc j Zo,List.getElem?_take_of_lt Zo]
 ·rintro w xs hkn hl ⟨a2,cap2,hv,h1,h2,h0,h3⟩;cases hv;refine⟨_,cap,rfl,hk,h2,?_,?_⟩
  ·exact fw
  ·rcases h3 with h3|⟨b,off,Sn,hb,hc⟩
   ·subst h3;simp
   ·refine WB ⟨b,off,ha b off Sn,hb,fun j hj=>?_⟩;rw[SY]at hj;rw[hc j Zo,List.getElem?_take_of_lt Zo]
theorem SI{t e:TypeId}{size bytes:Nat}(E:Elem P t e size bytes)(a:Option Addr)(n cap k:Nat)(hk:k≤n)(hn:n≤cap) :
  ∃a',(∀w,(Instr.slice t (.slice a n cap) (some (.int .i64 (k:Int))) none none).run P w = .ok (.slice a' (n-k) (cap-k)) w) ∧
   (∀w xs,xs.length=n*size→Row w e (.slice a n cap) n xs→Row w e (.slice a' (n-k) (cap-k)) (n-k) (xs.drop (k*size))) ∧
   (∀w xs,xs.length=n*size→XM w (.slice a n cap) n xs→XM w (.slice a' (n-k) (cap-k)) (n-k) (xs.drop (k*size))):=by
 have MT:∀(b off d:Nat),(⟨b,off,none⟩:Addr).add d=⟨b,off+d,none⟩:=fun b off d=>by unfold Addr.add;split <;> simp_all
 refine⟨if cap=k then a else a.map (·.add (k*size)),fun w=>?_,?_,?_⟩
 ·rw[run_slice_l w t a n cap E.under .i64 (k:Int) Zo Zo,E.BF];simp[Result.andThen,sliced]
 ·rintro w xs hl ⟨a2,cap2,hv,h1,h2,h0,h3⟩;cases hv;refine⟨_,cap-k,rfl,Zo,by unfold maxLen at *;omega,?_,?_⟩
  ·exact fw
  ·rcases h3 with h3|⟨b,off,c,fr,Sn,hb,hc⟩
   ·subst h3;simp
   ·by_cases hck:cap=k
    ·obtain rfl:n=k:=by omega
     left;rw[←hl];simp
    ·refine WB ⟨b,off+k*size,c,fr,by rw[Z3 hck,Sn];simp[MT],hb,fun j hj=>?_⟩;rw[Ra]at hj;rw[Nat.add_assoc,hc _ Zo,List.getElem?_drop]
 ·rintro w xs hl ⟨a2,cap2,hv,h1,h2,h0,h3⟩;cases hv;refine⟨_,cap-k,rfl,Zo,by unfold maxLen at *;omega,?_,?_⟩
  ·exact fw
  ·rcases h3 with h3|⟨b,off,Sn,hb,hc⟩
   ·subst h3;simp
   ·by_cases hck:cap=k
    ·obtain rfl:n=k:=by omega
     left;rw[←hl];simp
    ·refine WB ⟨b,off+k*size,by rw[Z3 hck,Sn];simp[MT],hb,fun j hj=>?_⟩;rw[Ra]at hj;rw[Nat.add_assoc,hc _ Zo,List.getElem?_drop]
end
end Go.Proofs.Heap
namespace Go.Proofs.Heap
open Go Go.RowKit
section
variable {P:Program}
theorem Wc{t e:TypeId}{size bytes:Nat}(E:Elem P t e size bytes)(a:Option Addr)(n cap l h:Nat)(hl:l≤h)(hh:h≤n)(hn:n≤cap) :
  ∃a',(∀w,(Instr.slice t (.slice a n cap) (some (.int .i64 (l:Int))) (some (.int .i64 (h:Int))) none).run P w = .ok (.slice a' (h-l) (cap-l)) w) ∧
   (∀w xs,xs.length=n*size→XM w (.slice a n cap) n xs→XM w (.slice a' (h-l) (cap-l)) (h-l) ((xs.drop (l*size)).take ((h-l)*size))):=by
 have MT:∀(b off d:Nat),(⟨b,off,none⟩:Addr).add d=⟨b,off+d,none⟩:=fun b off d=>by unfold Addr.add;split <;> simp_all
 refine⟨if cap=l then a else a.map (·.add (l*size)),fun w=>?_,?_⟩
 ·rw[run_slice_lh w t a n cap E.under .i64 .i64 (l:Int) (h:Int) Zo Zo Zo,E.BF];simp[Result.andThen,sliced]
 ·rintro w xs aO ⟨a2,cap2,hv,h1,h2,h0,h3⟩;cases hv;refine⟨_,cap-l,rfl,Zo,by unfold maxLen at *;omega,?_,?_⟩
  ·intro lR
   have:a=none:=by
    split at lR
    ·exact lR
    ·simpa using lR
   have:=h0 this;omega
  ·rcases h3 with h3|⟨b,off,Sn,hb,hc⟩
   ·subst h3;simp
   ·by_cases hck:cap=l
    ·left
     have:h-l=0:=by omega
     rw[this];simp
    ·refine WB ⟨b,off+l*size,by rw[Z3 hck,Sn];simp[MT],hb,fun j hj=>?_⟩;rw[SY,Ra]at hj;rw[Nat.add_assoc,hc _ Zo,List.getElem?_take_of_lt Zo,List.getElem?_drop]
end
end Go.Proofs.Heap
