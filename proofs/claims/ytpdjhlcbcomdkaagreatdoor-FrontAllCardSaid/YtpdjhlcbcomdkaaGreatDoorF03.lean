/- Part of a proof. -/
import Derived.Test.YtpdjhlcbcomdkaaGreatDoorF02
set_option linter.unusedVariables false
set_option linter.unusedSimpArgs false
set_option maxRecDepth 100000
set_option maxHeartbeats 16000000
open Go Go.Q
namespace Go.Proofs.N_
open Go Go.Lib
theorem FO {l:List UInt8} (h:0<l.length):l≠[]:=List.length_pos_iff.1 h
def Ew:Nat→List UInt8→List (Nat × Nat)
 | 0,_=>[]
 | n+1,l=>if l=[] then [] else decodeL l :: Ew n (l.drop (decodeL l).2)
def rn (l:List UInt8):List (Nat × Nat):=Ew l.length l
theorem F4:∀ (n m:Nat) (l:List UInt8),l.length≤n→l.length≤m→Ew n l=Ew m l
 | 0,m,l,hn,_=>by
  have:l=[]:=DM Zo
  subst this;cases m <;> simp [Ew]
 | n+1,0,l,_,hm=>by
  have:l=[]:=DM Zo
  subst this;simp [Ew]
 | n+1,m+1,l,hn,hm=>by
  by_cases Xh:l=[]
  ·simp [Ew,Xh]
  ·have hw:=decodeL_width l
   have hl:0<l.length:=List.length_pos_iff.2 Xh
   simp only [Ew,Z6 Xh]
   rw [F4 n m _ (by rw [RU];omega) (by rw [RU];omega)]
theorem Ey:rn []=[]:=rfl
theorem Si (l:List UInt8) (Xh:l≠[]):rn l=decodeL l :: rn (l.drop (decodeL l).2):=by
 have hw:=decodeL_width l
 have hl:0<l.length:=List.length_pos_iff.2 Xh
 unfold rn
 obtain ⟨n,hn⟩:∃ n,l.length=n+1:=⟨l.length-1,Zo⟩
 rw [hn,Ew,Z6 Xh,F4 n _ _ (by rw [RU];omega) (ZB _)]
theorem M4 {motive:List UInt8→Prop} (nil:motive []) (step:∀ l,l≠[]→motive (l.drop (decodeL l).2)→motive l) (l:List UInt8):motive l:=by
 have key:∀ n l,l.length≤n→motive l:=by
  intro n
  induction n with
  | zero=>intro l hl;have:l=[]:=DM Zo;subst this;exact nil
  | succ n ih=>
   intro l hl
   by_cases Xh:l=[]
   ·subst Xh;exact nil
   ·have hw:=decodeL_width l
    have hl:0<l.length:=List.length_pos_iff.2 Xh
    exact step l Xh (ih _ (by rw [RU];omega))
 exact key _ l (ZB _)
def good (p:Nat × Nat):Bool:= !(p.1 == 65533 && p.2 == 1)
def JB (r:Nat):Bool:=decide (33≤r) && (decide (r<127) || decide (159<r)) && !(r == 65533)
def may (l:List UInt8):Bool:=(rn l).all (fun p=>JB p.1) && decide (1≤(rn l).length) && decide ((rn l).length≤8)
def runes (l:List UInt8):Int:=if (rn l).all good then ((rn l).length:Int) else -1
def low (b:UInt8):UInt8:=if 65≤b.toNat∧b.toNat≤90 then b+32 else b
def key (l:List UInt8):List UInt8:=if may l then l.map low else []
def Ps (R:List (Nat × Nat)):Nat:=(R.map (·.2)).sum
def cutAt (l:List UInt8) (k:Nat):Nat:=Ps ((rn l).take k)
theorem tj {p:Nat × Nat} (h:JB p.1=true):good p=true:=by
 unfold JB at h;unfold good;simp at h ⊢;exact Wc h.2
theorem FK {l:List UInt8} (h:may l=true):(rn l).all good=true:=by
 unfold may at h
 simp only [Ui] at h
 exact List.all_eq_true.2 fun p hp=>tj (List.all_eq_true.1 h.1.1 p hp)
theorem wN:∀ l,validD l=(rn l).all good:=by
 refine M4 rfl ?_
 intro l Xh ih
 rw [validD_step l Xh,Si l Xh,List.all_cons,ih]
 unfold good
 by_cases h:(decodeL l).1=65533∧(decodeL l).2=1
 ·simp [h]
 ·rw [Z6 h]
  have:((decodeL l).1 == 65533 && (decodeL l).2 == 1)=false:=by
   rw [Ls];simpa using h
  simp [this]
theorem Gf:∀ l,Ps (rn l)=l.length:=by
 refine M4 rfl ?_
 intro l Xh ih
 have h1:=decodeL_le l Xh
 rw [Si l Xh]
 unfold Ps at *
 rw [List.map_cons,List.sum_cons,ih,RU];omega
theorem Da (R:List (Nat × Nat)) (k:Nat):Ps (R.take k)≤Ps R:=by
 unfold Ps
 induction R generalizing k with
 | nil=>simp
 | cons a R ih=>cases k with
  | zero=>simp
  | succ k=>simp only [List.take_succ_cons,List.map_cons,List.sum_cons];have:=ih k;omega
theorem Ho (l:List UInt8) (k:Nat):cutAt l k≤l.length:=by
 rw [←Gf l];exact Da _ _
theorem yL (l:List UInt8):cutAt l 0=0:=rfl
theorem Mg:∀ l,(rn l).length≤l.length:=by
 refine M4 (by simp [Ey]) ?_
 intro l Xh ih
 have h1:=decodeL_le l Xh
 have h2:=decodeL_width l
 rw [Si l Xh]
 rw [RU] at ih
 simp;omega
theorem Ex:∀ l,∀ k,rn (l.drop (cutAt l k))=(rn l).drop k:=by
 refine M4 (by intro k;simp [Ey]) ?_
 intro l Xh ih k
 cases k with
 | zero=>simp [yL]
 | succ k=>
  have:=ih k
  unfold cutAt at *
  rw [Si l Xh,List.take_succ_cons,List.drop_succ_cons]
  unfold Ps at *
  rw [List.map_cons,List.sum_cons,←this,List.drop_drop]
theorem Hp (l:List UInt8) (k:Nat) (h:cutAt l k<l.length):cutAt l (k+1)=cutAt l k+(decodeL (l.drop (cutAt l k))).2:=by
 have Xh:l.drop (cutAt l k)≠[]:=FO (by rw [RU];omega)
 have h1:=Ex l k
 rw [Si _ Xh] at h1
 unfold cutAt at *
 have hk:(rn l)[k]?=some (decodeL (l.drop (Ps ((rn l).take k)))):=by
  have:=congrArg (·[0]?) h1
  simpa using this.symm
 rw [List.take_add_one,hk]
 unfold Ps
 simp
theorem ve (l:List UInt8) (k:Nat):cutAt l k=l.length↔(rn l).length≤k:=by
 constructor
 ·intro h
  have h1:=Ex l k
  rw [h,List.drop_length,Ey] at h1
  have:=congrArg List.length h1
  rw [RU] at this;simp at this;omega
 ·intro h
  unfold cutAt;rw [I8 h,Gf]
theorem Lz (l:List UInt8) (k:Nat):cutAt l k<l.length↔k<(rn l).length:=by
 have h1:=ve l k
 have h2:=Ho l k
 omega
theorem ru (l:List UInt8) (k:Nat) (h:k≤(rn l).length):k≤cutAt l k:=by
 induction k with
 | zero=>exact TS _
 | succ k ih=>
  have:=(Lz l k).2 Zo
  have:=ih Zo
  rw [Hp l k SN]
  have:=decodeL_width (l.drop (cutAt l k))
  omega
theorem dP (l:List UInt8) (k:Nat) (h:k<(rn l).length):(rn l)[k]=decodeL (l.drop (cutAt l k)):=by
 have Rj:=(Lz l k).2 h
 have Xh:l.drop (cutAt l k)≠[]:=FO (by rw [RU];omega)
 have h1:=Ex l k
 rw [Si _ Xh] at h1
 have:=congrArg (·[0]?) h1
 simp [VQ h] at this
 exact this.symm
theorem yN {p:Nat × Nat} (h:good p=false):p=(65533,1):=by
 unfold good at h;simp at h;exact Prod.ext h.1 h.2
theorem yM (l:List UInt8):(decodeL l).2≤4:=by
 rw [decodeL_N]
 rcases decodeN_shape l.length (l.getD 0 0).toNat (l.getD 1 0).toNat (l.getD 2 0).toNat (l.getD 3 0).toNat with ⟨c,e⟩|⟨c1,c2,c3,cv,e⟩|⟨c1,c2,c3,c4,cv,cs,e⟩|⟨c1,c2,c3,c4,c5,cv,cw,e⟩|e
 all_goals (rw [e];dsimp only;omega)
theorem zr:∀ l,l.length≤4*(rn l).length:=by
 refine M4 (by simp [Ey]) ?_
 intro l Xh ih
 have h1:=yM l
 rw [RU] at ih
 rw [Si l Xh,List.length_cons];omega
theorem xQ {l:List UInt8} (h:may l=true):l.length≤32:=by
 have:=zr l
 unfold may at h;simp at h;omega
/-! Keys -/
def Uy (r:Nat):Nat:=if 65≤r∧r≤90 then r+32 else r
theorem RV (b:UInt8):(low b).toNat=Uy b.toNat:=by
 unfold low Uy
 split
 ·rename_i h
  rw [UInt8.toNat_add]
  have:(32:UInt8).toNat=32:=rfl
  rw [this];omega
 ·rfl
theorem LF (l:List UInt8) (i:Nat):((l.map low).getD i 0).toNat=Uy (l.getD i 0).toNat:=by
 rw [Sq,Sq,List.getElem?_map]
 cases l[i]? with
 | none=>rfl
 | some b=>exact RV b
theorem Bd (n b0 b1 b2 b3:Nat):decodeN n (Uy b0) (Uy b1) (Uy b2) (Uy b3)=(Uy (decodeN n b0 b1 b2 b3).1,(decodeN n b0 b1 b2 b3).2):=by
 have hc:∀ b,128≤b→Uy b=b:=by intro b h;unfold Uy;rw [Z6 Zo]
 have hl:∀ b,b<128→Uy b<128:=by intro b h;unfold Uy;split <;> omega
 have h64:∀ b,Uy b / 64=2↔b / 64=2:=by
  intro b;unfold Uy;split <;> omega
 by_cases h0:b0<128
 ·unfold decodeN;rw [ZX (hl _ h0),ZX h0]
 ·have e0:=hc b0 Zo
  rw [e0]
  have h8:∀ b,b / 64=2→Uy b=b:=fun b h=>hc b Zo
  by_cases k1:b1 / 64=2
  ·rw [h8 b1 k1]
   by_cases k2:b2 / 64=2
   ·rw [h8 b2 k2]
    by_cases k3:b3 / 64=2
    ·rw [h8 b3 k3]
     exact nB
    ·have k3':¬Uy b3 / 64=2:=fun h=>k3 ((h64 b3).1 h)
     have e3:decodeN n b0 b1 b2 (Uy b3)=decodeN n b0 b1 b2 b3:=by
      unfold decodeN
      rw [Z6 h0,Z6 h0]
      simp only [k3,k3',and_false,if_false]
     rw [e3]
     exact nB
   ·have k2':¬Uy b2 / 64=2:=fun h=>k2 ((h64 b2).1 h)
    have e3:decodeN n b0 b1 (Uy b2) (Uy b3)=decodeN n b0 b1 b2 b3:=by
     unfold decodeN
     rw [Z6 h0,Z6 h0]
     simp only [k2,k2',and_false,false_and,if_false]
    rw [e3]
    exact nB
  ·have k1':¬Uy b1 / 64=2:=fun h=>k1 ((h64 b1).1 h)
   have e3:decodeN n b0 (Uy b1) (Uy b2) (Uy b3)=decodeN n b0 b1 b2 b3:=by
    unfold decodeN
    rw [Z6 h0,Z6 h0]
    simp only [k1,k1',and_false,false_and,if_false]
   rw [e3]
   exact nB
theorem yO (l:List UInt8):decodeL (l.map low)=(Uy (decodeL l).1,(decodeL l).2):=by
 rw [decodeL_N,decodeL_N,UM,LF,LF,LF,LF,Bd]
theorem j_:∀ l,rn (l.map low)=(rn l).map fun p=>(Uy p.1,p.2):=by
 refine M4 rfl ?_
 intro l Xh ih
 rw [Si _ (by simpa using Xh),Si l Xh,List.map_cons,yO]
 dsimp only
 rw [←List.map_drop,ih]
theorem pg (r:Nat):JB (Uy r)=JB r:=by
 unfold JB Uy
 split
 ·rename_i h
  rw [Bool.eq_iff_iff];simp;omega
 ·rfl
theorem xR (l:List UInt8):may (l.map low)=may l:=by
 unfold may
 rw [j_,UM,List.all_map]
 congr 2
 apply List.all_congr rfl
 intro p;exact pg _
theorem o9 (b:UInt8):low (low b)=low b:=by
 apply UInt8.toNat_inj.1
 rw [RV,RV];unfold Uy;repeat' split
 all_goals omega
theorem sQ (l:List UInt8) (h:may l=true):(key l).length=l.length∧may (key l)=true∧key (key l)=key l:=by
 have e:key l=l.map low:=by unfold key;rw [ZX h]
 rw [e]
 refine ⟨UM _,by rw [xR,h],?_⟩
 unfold key
 rw [ZX (by rw [xR,h]),List.map_map]
 congr 1
 funext b;exact o9 b
def OS (r:Int):Int:=if 65≤r∧r≤90 then r-65+97 else r
theorem Gx (l:List UInt8) (Xh:l≠[]) (h:(decodeL l).1<128):∃ b t,l=b :: t∧b.toNat<128∧decodeL l=(b.toNat,1):=by
 cases l with
 | nil=>exact absurd rfl Xh
 | cons b t=>
  refine ⟨b,t,rfl,?_⟩
  have e0:(b :: t).getD 0 0=b:=rfl
  rw [decodeL_N,e0] at h ⊢
  rcases decodeN_shape (b :: t).length b.toNat ((b :: t).getD 1 0).toNat ((b :: t).getD 2 0).toNat ((b :: t).getD 3 0).toNat with ⟨c,e⟩|⟨c1,c2,c3,cv,e⟩|⟨c1,c2,c3,c4,cv,cs,e⟩|⟨c1,c2,c3,c4,c5,cv,cw,e⟩|e
  ·exact ⟨c,e⟩
  all_goals (rw [e] at h;dsimp only at h;omega)
theorem JL (r:Int) (h:128≤r):∀ b∈encodeRune r,low b=b:=by
 intro b hb
 have:128≤b.toNat:=by
  unfold encodeRune at hb
  obtain ⟨z,hz,rfl⟩:=yG.1 hb
  have h1:=encodeRuneZ_byte r z hz
  have h2:128≤z:=by
   unfold encodeRuneZ at hz
   repeat' split at hz
   all_goals simp at hz
   all_goals omega
  obtain ⟨n,rfl⟩:=Rn h1.1
  simp;omega
 unfold low;rw [Z6 Zo]
theorem sX:∀ l,validD l=true→mapD OS l=l.map low:=by
 refine M4 (fun _=>rfl) ?_
 intro l Xh ih hv
 rw [validD_step l Xh] at hv
 split at hv
 ·cases hv
 rename_i hg
 have ih:=ih hv
 by_cases h:(decodeL l).1<128
 ·obtain ⟨b,t,rfl,hb,hd⟩:=Gx l Xh h
  rw [mapD_step _ _ Xh,ih,hd]
  dsimp only [List.drop_succ_cons,List.drop_zero,List.map_cons]
  have h0:0≤OS (b.toNat:Int):=by unfold OS;split <;> omega
  rw [ZX h0]
  have:encodeRune (OS (b.toNat:Int))=[low b]:=by
   have e2:OS (b.toNat:Int)=((low b).toNat:Int):=by
    rw [RV];unfold OS Uy;repeat' split
    all_goals omega
   have h3:(low b).toNat<128:=by rw [RV];unfold Uy;split <;> omega
   rw [e2];unfold encodeRune;rw [encodeRuneZ_one Zo Zo]
   simp
  rw [this];rfl
 ·have hf:OS ((decodeL l).1:Int)=(decodeL l).1:=by unfold OS;rw [Z6 Zo]
  rw [mapD_same OS l Xh hf hg,ih,←encode_decode l Xh hg]
  conv=>rhs;rw [←List.take_append_drop (decodeL l).2 l,ND,←encode_decode l Xh hg]
  congr 1
  have:=JL ((decodeL l).1:Int) Zo
  exact (List.map_congr_left this).symm▸(List.map_id _).symm
/-! One rune -/
end Go.Proofs.N_
namespace Go.Proofs.Rm
open Go.Proofs.N_ (may key)
structure Op where
 kind:Int
 peer:Int
 source:Int
 Zu:Int
 name:List UInt8
 ZO:List Int
structure YE where
 kind:Int
 peer:Int
 source:Int
 Zu:Int
 X5:Int
deriving DecidableEq
structure Src where
 there:Bool
 num:Int
 own:Int
 sv:Value
 ss:List Int
 ZE:Bool
structure Sub where
 there:Bool
 ZR:Bool
 want:Int
structure Room where
 names:Nat→List UInt8
 src:Nat→Src
 sub:Nat→Nat→Sub
def UT:Src:=⟨false,0,0,.slice none 0 0,[],false⟩
def VJ:Sub:=⟨false,false,0⟩
def empty:Room:=⟨fun _=>[],fun _=>UT,fun _ _=>VJ⟩
def Room.setName (R:Room) (p:Nat) (s:List UInt8):Room:={R with names:=fun q=>if q=p then s else R.names q}
def Room.Zt (R:Room) (n:Nat) (s:Src):Room:={R with src:=fun q=>if q=n then s else R.src q}
def Room.ZZ (R:Room) (n p:Nat) (x:Sub):Room:={R with sub:=fun m q=>if m=n∧q=p then x else R.sub m q}
def WB (n below:Int):Bool:=decide (1≤n) && decide (n<below)
def Zz (R:Room) (p:Int):Bool:=WB p 9 && !(R.names p.toNat).isEmpty
def index (l:List Int) (x:Int):Int:=match l.findIdx? (fun y=>y == x) with|some i=>i|none=> -1
def SH (R:Room) (x:Int):Nat→Nat→Int × Int × Bool
 | 0,_=>(0,0,false)
 | k+1,n=>if (R.src n).there && decide (0≤index (R.src n).ss x) then ((n:Int),index (R.src n).ss x,true) else SH R x k (n+1)
def of (R:Room) (x:Int):Int × Int × Bool:=SH R x 9 0
def ZH (R:Room) (p n:Int):Bool:=WB p 9 && WB n 9 && (R.sub n.toNat p.toNat).there
def Z8 (R:Room) (n:Int):List Nat:=(List.range 9).filter fun p=>ZH R p n
def Zu (R:Room) (o:Op):Int:=if o.Zu<0∨((R.src o.source.toNat).ss.length:Int)≤o.Zu then 5 else 0
def heard (R:Room) (o:Op):Int:=
 let x:=R.sub o.source.toNat o.peer.toNat
 if !x.there then 8
 else if o.kind=10∧x.ZR=true then 9
 else if o.kind=11∧x.ZR=false then 11
 else if o.kind≠12 then 0
 else if Zu R o≠0 then Zu R o
 else if x.want=o.Zu then 9 else 0
def about (R:Room) (o:Op):Int:=
 let s:=R.src o.source.toNat
 if o.kind=5∨o.kind=8∨o.kind=9 then
  (if s.own≠o.peer then 10 else if o.kind=8∧s.ZE=true then 9 else if o.kind=9∧s.ZE=false then 11 else 0)
 else if o.kind=6 then
  (if s.own=o.peer then 10 else if (R.sub o.source.toNat o.peer.toNat).there then 9 else Zu R o)
 else heard R o
def Wb (R:Room) (l:List Int) (i:Nat):Bool:=(of R (l.getD i 0)).2.2 || (l.take i).contains (l.getD i 0)
def Wv (R:Room) (o:Op):Int:=
 if o.ZO.length<1∨3<o.ZO.length then 5
 else if o.ZO.any (fun s=>decide (s<2) || decide (3221225472≤s)) then 5
 else if (R.src o.source.toNat).there then 9
 else if (List.range o.ZO.length).any (Wb R o.ZO) then 9 else 0
def sameKey (R:Room) (o:Op) (n:Nat):Bool:= !(R.names n).isEmpty && decide (key (R.names n)=key o.name)
def Nl (R:Room) (o:Op):Int:=
 if Zz R o.peer then 9
 else if !may o.name then 12
 else if (List.range 9).any (sameKey R o) then 9 else 0
def Yo (R:Room) (o:Op):Int:=
 if o.kind<2∨12<o.kind then 4
 else if !WB o.peer 9 then 5
 else if o.kind=2 then Nl R o
 else if !Zz R o.peer then 8
 else if o.kind=3 then 0
 else if !WB o.source 9 then 5
 else if o.kind=4 then Wv R o
 else if !(R.src o.source.toNat).there then 8
 else about R o
def asks (R:Room) (p n:Nat):YE:=⟨9,(R.src n).own,n,0,(R.src n).ss.getD (R.sub n p).want.toNat 0⟩
def waits (R:Room) (p n:Nat):List YE:=if (R.sub n p).ZR || (R.src n).ZE then [] else [asks R p n]
def XN (n:Nat):List Nat→Room→List YE × Room
 | [],R=>([],R)
 | p :: l,R=>let x:=XN n l (R.ZZ n p VJ);(⟨3,p,n,0,0⟩ :: ⟨2,p,n,0,0⟩ :: x.1,x.2)
def gone (R:Room) (n:Nat):List YE × Room:=
 let x:=XN n (Z8 R n) R
 (x.1,x.2.Zt n UT)
def ZP (p:Nat) (R:Room):Nat→List YE × Room
 | 0=>([],R)
 | k+1=>let x:=ZP p R k;if (x.2.sub k p).there then (x.1++[⟨2,p,k,0,0⟩],x.2.ZZ k p VJ) else x
def ZM (R0:Room) (p:Nat):Nat→List YE × Room
 | 0=>([],R0)
 | k+1=>let x:=ZM R0 p k;if (R0.src k).there && decide ((R0.src k).own=p) then (x.1++(gone x.2 k).1,(gone x.2 k).2) else x
def leave (R:Room) (p:Nat):List YE × Room:=
 ((ZP p R 9).1++(ZM (ZP p R 9).2 p 9).1,(ZM (ZP p R 9).2 p 9).2.setName p [])
def begin (R:Room) (o:Op):List YE × Room:=
 let n:=o.source.toNat;let p:=o.peer.toNat
 let R1:=R.ZZ n p ⟨true,false,o.Zu⟩
 (⟨1,o.peer,o.source,o.Zu,0⟩ :: (if (R.src n).ZE then [⟨6,o.peer,o.source,0,0⟩] else [asks R1 p n]),R1)
def Y_ (R:Room) (n:Nat) (on:Bool) (p:Nat):List YE:=
 if on then [⟨6,p,n,0,0⟩] else ⟨7,p,n,0,0⟩ :: waits R p n
def mute (R:Room) (n:Nat) (on:Bool):List YE × Room:=
 let R1:=R.Zt n {R.src n with ZE:=on}
 ((Z8 R1 n).flatMap (Y_ R1 n on),R1)
def turns (R:Room) (o:Op) (sv:Value):List YE × Room:=
 let n:=o.source.toNat;let p:=o.peer.toNat;let x:=R.sub n p
 if o.kind=2 then ([],R.setName p o.name)
 else if o.kind=3 then leave R p
 else if o.kind=4 then ([],R.Zt n ⟨true,o.source,o.peer,sv,o.ZO,false⟩)
 else if o.kind=5 then gone R n
 else if o.kind=6 then begin R o
 else if o.kind=7 then ([⟨2,o.peer,o.source,0,0⟩],R.ZZ n p VJ)
 else if o.kind=8 then mute R n true
 else if o.kind=9 then mute R n false
 else if o.kind=10 then ([⟨4,o.peer,o.source,0,0⟩],R.ZZ n p {x with ZR:=true})
 else if o.kind=11 then let R1:=R.ZZ n p {x with ZR:=false};(⟨5,o.peer,o.source,0,0⟩ :: waits R1 p n,R1)
 else if o.kind=12 then let R1:=R.ZZ n p {x with want:=o.Zu};(⟨8,o.peer,o.source,o.Zu,0⟩ :: waits R1 p n,R1)
 else ([],R)
def W9 (R:Room) (o:Op) (sv:Value):(List YE × Room) × Int:=if Yo R o≠0 then (([],R),Yo R o) else (turns R o sv,0)
def Y7 (R:Room) (peer X5:Int):(List YE × Room) × Int:=
 if !(of R X5).2.2 || !Zz R peer || decide ((R.src (of R X5).1.toNat).own≠peer) then (([],R),8) else (gone R (of R X5).1.toNat,0)
structure Inv (R:Room):Prop where
 Q_:R.names 0=[]∧(R.src 0).there=false
 Zx:∀ n p,(R.sub n p).there=true→1≤n∧n<9∧1≤p∧p<9∧(R.src n).there=true∧R.names p≠[]∧(R.src n).own≠p∧0≤(R.sub n p).want∧(R.sub n p).want<(R.src n).ss.length
 Zq:∀ n,(R.src n).there=true→1≤n∧n<9∧(R.src n).num=n∧Zz R (R.src n).own=true∧1≤(R.src n).ss.length∧(R.src n).ss.length≤3∧(R.src n).ss.Nodup∧∀ x∈(R.src n).ss,2≤x∧x<3221225472
 apart:∀ n m x,(R.src n).there=true→(R.src m).there=true→x∈(R.src n).ss→x∈(R.src m).ss→n=m
 nameAt:∀ p,R.names p≠[]→p<9∧may (R.names p)=true
 keys:∀ p q,R.names p≠[]→key (R.names p)=key (R.names q)→p=q
theorem Wq (R:Room) (n p:Nat) (x:Sub) (m q:Nat):(R.ZZ n p x).sub m q=if m=n∧q=p then x else R.sub m q:=rfl
theorem Xa (R:Room) (n:Nat) (x:Src) (m:Nat):(R.Zt n x).src m=if m=n then x else R.src m:=rfl
theorem Ym (R:Room) (p:Nat) (s:List UInt8) (q:Nat):(R.setName p s).names q=if q=p then s else R.names q:=rfl
theorem LL (n:Nat):∀ l R,(XN n l R).2.names=R.names
 | [],_=>rfl
 | p :: l,R=>LL n l (R.ZZ n p VJ)
theorem MK (n:Nat):∀ l R,(XN n l R).2.src=R.src
 | [],_=>rfl
 | p :: l,R=>MK n l (R.ZZ n p VJ)
theorem Hz (n:Nat):∀ l R m q,(XN n l R).2.sub m q=if m=n∧q∈l then VJ else R.sub m q
 | [],R,m,q=>by simp [XN]
 | p :: l,R,m,q=>by
  show (XN n l (R.ZZ n p VJ)).2.sub m q=_
  rw [Hz n l,Wq]
  by_cases h1:m=n∧q∈l
  ·rw [ZX h1,ZX ⟨h1.1,List.mem_cons_of_mem _ h1.2⟩]
  ·rw [Z6 h1]
   by_cases h2:m=n∧q=p
   ·rw [ZX h2,ZX ⟨h2.1,by rw [h2.2];exact List.mem_cons_self⟩]
   ·rw [Z6 h2,Z6]
    rintro ⟨a,b⟩
    rcases KG.1 b with b|b
    ·exact h2 ⟨a,b⟩
    ·exact h1 ⟨a,b⟩
theorem Jx {n:Nat} {k:Int}:WB n k=true↔1≤n∧(n:Int)<k:=by unfold WB;simp;omega
theorem Vq {R:Room} {p n:Nat}:ZH R p n=true↔1≤p∧p<9∧1≤n∧n<9∧(R.sub n p).there=true:=by
 unfold ZH
 rw [Ui,Ui,Jx,Jx,Xf,Xf]
 exact ⟨fun ⟨⟨⟨a,b⟩,c,d⟩,e⟩=>⟨a,Zo,c,Zo,e⟩,fun ⟨a,b,c,d,e⟩=>⟨⟨⟨a,Zo⟩,c,Zo⟩,e⟩⟩
theorem P4 {R:Room} {n p:Nat}:p∈Z8 R n↔1≤p∧p<9∧1≤n∧n<9∧(R.sub n p).there=true:=by
 unfold Z8
 rw [lq,List.mem_range,Vq]
 exact ⟨fun ⟨_,h⟩=>h,fun h=>⟨h.2.1,h⟩⟩
theorem Inv.P4 {R:Room} (hI:Inv R) {n p:Nat}:p∈Z8 R n↔(R.sub n p).there=true:=by
 rw [Rm.P4]
 constructor
 ·exact fun h=>h.2.2.2.2
 ·intro h
  have:=hI.Zx n p h
  exact ⟨this.2.2.1,this.2.2.2.1,this.1,this.2.1,h⟩
theorem H8 (R:Room) (n:Nat):(gone R n).2.names=R.names:=LL n _ _
theorem PN (R:Room) (n m:Nat):(gone R n).2.src m=if m=n then UT else R.src m:=by
 show (((XN n (Z8 R n) R).2).Zt n UT).src m=_
 rw [Xa,MK]
theorem Bj (R:Room) (n m q:Nat):(gone R n).2.sub m q=if m=n∧q∈Z8 R n then VJ else R.sub m q:=Hz n _ _ m q
theorem H9 {R:Room} (hI:Inv R) (n m q:Nat):((gone R n).2.sub m q).there=true↔m≠n∧(R.sub m q).there=true:=by
 rw [Bj]
 by_cases h:m=n
 ·subst h
  by_cases h2:(R.sub m q).there=true
  ·rw [ZX ⟨rfl,hI.P4.2 h2⟩];simp [VJ]
  ·rw [Z6 (fun h=>h2 (hI.P4.1 h.2))];simp [h2]
 ·rw [Z6 (fun e=>h e.1)];simp [h]
theorem nV (R:Room) {n m:Nat} (h:m≠n) (q:Nat):(gone R n).2.sub m q=R.sub m q:=by rw [Bj,Z6 (fun e=>h e.1)]
theorem LX {R R':Room} (h:R'.names=R.names) (p:Int):Zz R' p=Zz R p:=by unfold Zz;rw [h]
theorem Io {R:Room} {p:Nat}:Zz R p=true↔1≤p∧p<9∧R.names p≠[]:=by
 unfold Zz
 rw [Ui,Jx,Xf]
 have:(!(R.names p).isEmpty)=true↔R.names p≠[]:=by simp
 rw [this]
 exact ⟨fun ⟨⟨a,b⟩,c⟩=>⟨a,Zo,c⟩,fun ⟨a,b,c⟩=>⟨⟨a,Zo⟩,c⟩⟩
theorem Ii {R:Room} (hI:Inv R) (n:Nat):Inv (gone R n).2:=by
 have hn:=H8 R n
 refine ⟨?_,?_,?_,?_,?_,?_⟩
 ·rw [hn,PN]
  refine ⟨hI.Q_.1,?_⟩
  split
  ·rfl
  ·exact hI.Q_.2
 ·intro m q h
  obtain ⟨h1,h2⟩:=(H9 hI n m q).1 h
  have:=hI.Zx m q h2
  rw [nV R h1,PN,Z6 h1,hn]
  exact this
 ·intro m h
  rw [PN] at h ⊢
  by_cases h1:m=n
  ·rw [ZX h1] at h;cases h
  ·rw [Z6 h1] at h ⊢
   rw [LX hn]
   exact hI.Zq m h
 ·intro m k x h1 h2 h3 h4
  rw [PN] at h1 h2 h3 h4
  by_cases hm:m=n
  ·rw [ZX hm] at h1;cases h1
  by_cases hk:k=n
  ·rw [ZX hk] at h2;cases h2
  rw [Z6 hm] at h1 h3
  rw [Z6 hk] at h2 h4
  exact hI.apart m k x h1 h2 h3 h4
 ·rw [hn];exact hI.nameAt
 ·rw [hn];exact hI.keys
theorem xO {R:Room} (hI:Inv R) (n p:Nat):Inv (R.ZZ n p VJ):=by
 refine ⟨hI.Q_,?_,hI.Zq,hI.apart,hI.nameAt,hI.keys⟩
 intro m q h
 rw [Wq] at h ⊢
 by_cases h1:m=n∧q=p
 ·rw [ZX h1] at h;cases h
 ·rw [Z6 h1] at h ⊢
  exact hI.Zx m q h
theorem Ry {R:Room} (hI:Inv R) (p:Nat):∀ k,Inv (ZP p R k).2
 | 0=>hI
 | k+1=>by
  unfold ZP
  dsimp only
  split
  ·exact xO (Ry hI p k) k p
  ·exact Ry hI p k
theorem Pd {R:Room} (hI:Inv R) (p:Nat):∀ k,Inv (ZM R p k).2
 | 0=>hI
 | k+1=>by
  unfold ZM
  dsimp only
  split
  ·exact Ii (Pd hI p k) k
  ·exact Pd hI p k
theorem Sd (R:Room) (p:Nat):∀ k,(ZP p R k).2.names=R.names∧(ZP p R k).2.src=R.src
 | 0=>⟨rfl,rfl⟩
 | k+1=>by
  unfold ZP
  dsimp only
  split
  ·exact Sd R p k
  ·exact Sd R p k
theorem LY (R:Room) (p:Nat):∀ k m q,((ZP p R k).2.sub m q).there=((R.sub m q).there && !(decide (q=p) && decide (m<k)))
 | 0,m,q=>by simp [ZP]
 | k+1,m,q=>by
  have ih:=LY R p k
  unfold ZP
  dsimp only
  by_cases ht:((ZP p R k).2.sub k p).there=true
  ·rw [ZX ht]
   dsimp only
   rw [Wq]
   by_cases h:m=k∧q=p
   ·rw [ZX h,h.1,h.2];simp [VJ]
   ·rw [Z6 h,ih]
    by_cases hq:q=p
    ·have:m≠k:=fun e=>h ⟨e,hq⟩
     simp [hq]
     by_cases hm:m<k
     ·simp [hm,Nat.lt_succ_of_lt hm]
     ·have:¬m<k+1:=by omega
      simp [hm,this]
    ·simp [hq]
  ·rw [Z6 ht,ih]
   by_cases hq:q=p
   ·by_cases hm:m=k
    ·subst hm;subst hq
     rw [ih] at ht
     simp at ht
     simp [ht]
    ·simp [hq]
     by_cases hm2:m<k
     ·simp [hm2,Nat.lt_succ_of_lt hm2]
     ·have:¬m<k+1:=by omega
      simp [hm2,this]
   ·simp [hq]
theorem Pj (R:Room) (p:Nat):∀ k,(ZM R p k).2.names=R.names
 | 0=>rfl
 | k+1=>by
  unfold ZM
  dsimp only
  split
  ·dsimp only;rw [H8];exact Pj R p k
  ·exact Pj R p k
theorem Pk (R:Room) (p:Nat):∀ k m,(ZM R p k).2.src m=if m<k∧(R.src m).there=true∧(R.src m).own=p then UT else R.src m
 | 0,m=>by simp [ZM]
 | k+1,m=>by
  have ih:=Pk R p k m
  unfold ZM
  dsimp only
  by_cases hc:((R.src k).there && decide ((R.src k).own=p))=true
  ·rw [ZX hc]
   dsimp only
   rw [PN]
   rw [Ui,NB] at hc
   by_cases hm:m=k
   ·subst hm;rw [ZX rfl,ZX ⟨Zo,hc.1,hc.2⟩]
   ·rw [Z6 hm,ih]
    have:m<k+1↔m<k:=by omega
    simp only [this]
  ·rw [Z6 hc,ih]
   rw [Ui,NB] at hc
   by_cases hm:m=k
   ·subst hm
    rw [Z6 Zo,Z6 (fun h=>hc ⟨h.2.1,h.2.2⟩)]
   ·have:m<k+1↔m<k:=by omega
    simp only [this]
theorem LZ {R:Room} (hI:Inv R) (p:Nat):∀ k m q,((ZM R p k).2.sub m q).there=true↔(R.sub m q).there=true∧¬(m<k∧(R.src m).there=true∧(R.src m).own=p)
 | 0,m,q=>by simp [ZM]
 | k+1,m,q=>by
  have ih:=LZ hI p k m q
  unfold ZM
  dsimp only
  by_cases hc:((R.src k).there && decide ((R.src k).own=p))=true
  ·rw [ZX hc]
   dsimp only
   rw [H9 (Pd hI p k),ih]
   rw [Ui,NB] at hc
   by_cases hm:m=k
   ·subst hm
    constructor
    ·rintro ⟨h,_⟩;exact absurd rfl h
    ·rintro ⟨_,h⟩;exact absurd ⟨Zo,hc⟩ h
   ·have:m<k+1↔m<k:=by omega
    rw [this]
    exact ⟨fun h=>h.2,fun h=>⟨hm,h⟩⟩
  ·rw [Z6 hc,ih]
   rw [Ui,NB] at hc
   by_cases hm:m=k
   ·subst hm
    constructor
    ·rintro ⟨h,_⟩;exact ⟨h,fun e=>hc e.2⟩
    ·rintro ⟨h,_⟩;exact ⟨h,fun e=>by omega⟩
   ·have:m<k+1↔m<k:=by omega
    rw [this]
theorem Ip {l:List UInt8} (h:may l=true):key l≠[]:=by
 intro e
 have h1:=(N_.sQ l h).1
 rw [e] at h1
 have:l=[]:=DM h1.symm
 subst this
 cases h
theorem zi {R:Room} (hI:Inv R) (p:Nat) (hs:∀ m,(R.src m).there=true→(R.src m).own≠p) (hu:∀ m,(R.sub m p).there=false):Inv (R.setName p []):=by
 refine ⟨⟨?_,hI.Q_.2⟩,?_,?_,hI.apart,?_,?_⟩
 ·rw [Ym];split
  ·rfl
  ·exact hI.Q_.1
 ·intro m q h
  have h0:=hI.Zx m q h
  have hq:q≠p:=by
   rintro rfl
   have h2:=hu m
   have h3:(R.sub m q).there=true:=h
   rw [h2] at h3;cases h3
  rw [Ym,Z6 hq]
  exact h0
 ·intro m h
  obtain ⟨h1,h2,h3,h4,h5⟩:=hI.Zq m h
  refine ⟨h1,h2,h3,?_,h5⟩
  have ho:=hs m h
  show Zz (R.setName p []) (R.src m).own=true
  unfold Zz at h4 ⊢
  rw [Ui] at h4 ⊢
  refine ⟨h4.1,?_⟩
  rw [Ym,Z6]
  ·exact h4.2
  ·intro e
   have:=h4.1
   unfold WB at this
   simp at this
   omega
 ·intro q h
  rw [Ym] at h ⊢
  by_cases hq:q=p
  ·rw [ZX hq] at h;exact absurd rfl h
  ·rw [Z6 hq] at h ⊢;exact hI.nameAt q h
 ·intro q r h e
  rw [Ym] at h e
  by_cases hq:q=p
  ·rw [ZX hq] at h;exact absurd rfl h
  rw [Z6 hq] at h e
  rw [Ym] at e
  by_cases hr:r=p
  ·rw [ZX hr] at e
   exact absurd e (Ip (hI.nameAt q h).2)
  ·rw [Z6 hr] at e
   exact hI.keys q r h e
theorem vN {R:Room} (hI:Inv R) (p:Nat):Inv (leave R p).2:=by
 have h1:=Ry hI p 9
 refine zi (Pd h1 p 9) p ?_ ?_
 ·intro m h
  rw [Pk] at h ⊢
  by_cases hc:m<9∧((ZP p R 9).2.src m).there=true∧((ZP p R 9).2.src m).own=p
  ·rw [ZX hc] at h;cases h
  ·rw [Z6 hc] at h ⊢
   intro e
   exact hc ⟨(h1.Zq m h).2.1,h,e⟩
 ·intro m
  rw [Ls]
  intro h
  have h2:=((LZ h1 p 9 m p).1 h).1
  have h3:=h1.Zx m p h2
  rw [LY] at h2
  simp at h2
  omega
end Go.Proofs.Rm
namespace Go.Proofs.Rm
open Go.Proofs.N_ (may key)
structure Ok (R:Room) (o:Op):Prop where
 kind:2≤o.kind∧o.kind≤12
 peer:1≤o.peer∧o.peer<9
 join:o.kind=2→Nl R o=0
 there:o.kind≠2→Zz R o.peer=true
 src:4≤o.kind→1≤o.source∧o.source<9
 Ep:o.kind=4→Wv R o=0
 is:5≤o.kind→(R.src o.source.toNat).there=true
 abt:5≤o.kind→about R o=0
theorem X7 (n k:Int):WB n k=true↔1≤n∧n<k:=by unfold WB;simp
theorem QH {R:Room} {o:Op} (h:Yo R o=0):Ok R o:=by
 unfold Yo at h
 by_cases h1:o.kind<2∨12<o.kind
 ·rw [ZX h1] at h;exact absurd h Zd
 rw [Z6 h1] at h
 by_cases h2:WB o.peer 9=true
 rotate_left
 ·simp [h2] at h
 simp only [h2,Bool.not_true,Bool.false_eq_true,if_false] at h
 have hp:=(X7 _ _).1 h2
 by_cases h3:o.kind=2
 ·rw [ZX h3] at h
  exact ⟨Zo,hp,fun _=>h,fun e=>absurd h3 e,Zo,Zo,Zo,Zo⟩
 rw [Z6 h3] at h
 by_cases h4:Zz R o.peer=true
 rotate_left
 ·simp [h4] at h
 simp only [h4,Bool.not_true,Bool.false_eq_true,if_false] at h
 by_cases h5:o.kind=3
 ·exact ⟨Zo,hp,Zo,fun _=>h4,Zo,Zo,Zo,Zo⟩
 rw [Z6 h5] at h
 by_cases h6:WB o.source 9=true
 rotate_left
 ·simp [h6] at h
 simp only [h6,Bool.not_true,Bool.false_eq_true,if_false] at h
 have hs:=(X7 _ _).1 h6
 by_cases h7:o.kind=4
 ·rw [ZX h7] at h
  exact ⟨Zo,hp,Zo,fun _=>h4,fun _=>hs,fun _=>h,Zo,Zo⟩
 rw [Z6 h7] at h
 by_cases h8:(R.src o.source.toNat).there=true
 rotate_left
 ·simp [h8] at h
 simp only [h8,Bool.not_true,Bool.false_eq_true,if_false] at h
 exact ⟨Zo,hp,Zo,fun _=>h4,fun _=>hs,Zo,fun _=>h8,fun _=>h⟩
theorem PZ {R:Room} {o:Op} (h:Zu R o=0):0≤o.Zu∧o.Zu<(R.src o.source.toNat).ss.length:=by
 unfold Zu at h
 by_cases h1:o.Zu<0∨((R.src o.source.toNat).ss.length:Int)≤o.Zu
 ·rw [ZX h1] at h;exact absurd h Zd
 ·omega
theorem Pz {R:Room} {o:Op} (h:about R o=0) (hk:o.kind=6):(R.src o.source.toNat).own≠o.peer∧(R.sub o.source.toNat o.peer.toNat).there=false∧Zu R o=0:=by
 unfold about at h
 dsimp only at h
 rw [Z6 Zo,ZX hk] at h
 by_cases h1:(R.src o.source.toNat).own=o.peer
 ·rw [ZX h1] at h;exact absurd h Zd
 rw [Z6 h1] at h
 cases ht:(R.sub o.source.toNat o.peer.toNat).there
 ·rw [ht] at h;exact ⟨h1,rfl,h⟩
 ·rw [ht] at h;simp at h
theorem Uj {R:Room} {o:Op} (h:about R o=0) (hk:o.kind=7∨10≤o.kind) :
  (R.sub o.source.toNat o.peer.toNat).there=true∧(o.kind=10→(R.sub o.source.toNat o.peer.toNat).ZR=false)∧(o.kind=11→(R.sub o.source.toNat o.peer.toNat).ZR=true)∧(o.kind=12→Zu R o=0∧(R.sub o.source.toNat o.peer.toNat).want≠o.Zu):=by
 unfold about at h
 dsimp only at h
 rw [Z6 Zo,Z6 Zo] at h
 unfold heard at h
 dsimp only at h
 cases ht:(R.sub o.source.toNat o.peer.toNat).there
 ·rw [ht] at h;simp at h
 rw [ht] at h
 simp only [Bool.not_true,Bool.false_eq_true,if_false] at h
 refine ⟨rfl,?_,?_,?_⟩
 ·intro xD
  cases hm:(R.sub o.source.toNat o.peer.toNat).ZR
  ·rfl
  ·rw [ZX ⟨xD,hm⟩] at h;exact absurd h Zd
 ·intro h11
  rw [Z6 Zo] at h
  cases hm:(R.sub o.source.toNat o.peer.toNat).ZR
  ·rw [ZX ⟨h11,hm⟩] at h;exact absurd h Zd
  ·rfl
 ·intro h12
  rw [Z6 Zo,Z6 Zo,Z6 Zo] at h
  by_cases hl:Zu R o=0
  ·rw [Z6 Zo] at h
   refine ⟨hl,fun e=>?_⟩
   rw [ZX e] at h;exact absurd h Zd
  ·rw [ZX hl] at h;exact absurd h hl
theorem KR (l:List Int) (x:Int):0≤index l x↔x∈l:=by
 unfold index
 cases h:l.findIdx? (fun y=>y == x) with
 | none=>
  have:=List.findIdx?_eq_none_iff.1 h
  constructor
  ·intro h;exact absurd h Zd
  ·intro hx;have:=this x hx;simp at this
 | some i=>
  obtain ⟨hi,h1,_⟩:=List.findIdx?_eq_some_iff_getElem.1 h
  have h1:l[i]=x:=by simpa using h1
  exact ⟨fun _=>by rw [←h1];exact Pw hi,fun _=>yF _⟩
theorem FR (R:Room) (x:Int):∀ k n,(SH R x k n).2.2=false↔∀ m,n≤m→m<n+k→(R.src m).there=true→x ∉ (R.src m).ss
 | 0,n=>by simp [SH];omega
 | k+1,n=>by
  unfold SH
  by_cases hc:((R.src n).there && decide (0≤index (R.src n).ss x))=true
  ·rw [ZX hc]
   rw [Ui,NB,KR] at hc
   constructor
   ·intro h;cases h
   ·intro h;exact absurd hc.2 (h n (ZB _) Zo hc.1)
  ·rw [Z6 hc,FR R x k (n+1)]
   rw [Ui,NB,KR] at hc
   constructor
   ·intro h m h1 h2 h3 h4
    by_cases e:m=n
    ·subst e;exact hc ⟨h3,h4⟩
    ·exact h m Zo Zo h3 h4
   ·intro h m h1 h2;exact h m Zo Zo
theorem xW {R:Room} {x:Int}:(of R x).2.2=false↔∀ m,m<9→(R.src m).there=true→x ∉ (R.src m).ss:=by
 unfold of
 rw [FR]
 exact ⟨fun h m hm=>h m (TS _) Zo,fun h m _ hm=>h m Zo⟩
theorem FT (R:Room) (x:Int):∀ k n,(SH R x k n).2.2=true→∃ m:Nat,n≤m∧m<n+k∧(R.src m).there=true∧x∈(R.src m).ss∧SH R x k n=((m:Int),index (R.src m).ss x,true)
 | 0,n,h=>by simp [SH] at h
 | k+1,n,h=>by
  unfold SH at h ⊢
  by_cases hc:((R.src n).there && decide (0≤index (R.src n).ss x))=true
  ·rw [ZX hc] at h ⊢
   rw [Ui,NB,KR] at hc
   exact ⟨n,ZB _,Zo,hc.1,hc.2,rfl⟩
  ·rw [Z6 hc] at h ⊢
   obtain ⟨m,h1,h2,h3⟩:=FT R x k (n+1) h
   exact ⟨m,Zo,Zo,h3⟩
theorem Ra {R:Room} {x:Int} (h:(of R x).2.2=true):∃ m:Nat,m<9∧(R.src m).there=true∧x∈(R.src m).ss∧of R x=((m:Int),index (R.src m).ss x,true):=by
 obtain ⟨m,_,h2,h3⟩:=FT R x 9 0 h
 exact ⟨m,Zo,h3⟩
theorem Iu (l:List Int) (h:∀ i,i<l.length→(l.take i).contains (l.getD i 0)=false):l.Nodup:=by
 unfold List.Nodup
 rw [List.pairwise_iff_getElem]
 intro i j hi hj jl e
 have:=h j hj
 rw [Sq,VQ hj,Option.getD_some] at this
 rw [←e] at this
 have hm:l[i]∈l.take j:=by
  rw [List.mem_iff_getElem]
  exact ⟨i,by rw [TU];omega,by rw [List.getElem_take]⟩
 rw [List.contains_iff_mem.2 hm] at this
 cases this
theorem IE {R:Room} {o:Op} (h:Wv R o=0):1≤o.ZO.length∧o.ZO.length≤3∧(∀ s∈o.ZO,2≤s∧s<3221225472)∧(R.src o.source.toNat).there=false∧o.ZO.Nodup∧∀ m x,m<9→(R.src m).there=true→x∈o.ZO→x ∉ (R.src m).ss:=by
 unfold Wv at h
 by_cases h1:o.ZO.length<1∨3<o.ZO.length
 ·rw [ZX h1] at h;exact absurd h Zd
 rw [Z6 h1] at h
 by_cases h2:o.ZO.any (fun s=>decide (s<2) || decide (3221225472≤s))=true
 ·rw [ZX h2] at h;exact absurd h Zd
 rw [Z6 h2] at h
 by_cases h3:(R.src o.source.toNat).there=true
 ·rw [ZX h3] at h;exact absurd h Zd
 rw [Z6 h3] at h
 by_cases h4:(List.range o.ZO.length).any (Wb R o.ZO)=true
 ·rw [ZX h4] at h;exact absurd h Zd
 have h5:∀ i,i<o.ZO.length→(of R (o.ZO.getD i 0)).2.2=false∧(o.ZO.take i).contains (o.ZO.getD i 0)=false:=by
  intro i hi
  have:¬Wb R o.ZO i=true:=fun e=>h4 (List.any_eq_true.2 ⟨i,by simpa using hi,e⟩)
  unfold Wb at this
  rw [Bool.or_eq_true] at this
  exact ⟨Ls.2 fun e=>this (Wc e),Ls.2 fun e=>this (Wj e)⟩
 refine ⟨Zo,Zo,?_,by simpa using h3,Iu _ fun i hi=>(h5 i hi).2,?_⟩
 ·intro s hs
  have:¬(decide (s<2) || decide (3221225472≤s))=true:=fun e=>h2 (List.any_eq_true.2 ⟨s,hs,e⟩)
  simp at this;omega
 ·intro m x hm ht hx
  obtain ⟨i,hi,rfl⟩:=List.getElem_of_mem hx
  have:=(h5 i hi).1
  rw [Sq,VQ hi,Option.getD_some,xW] at this
  exact this m hm ht
theorem xP {R:Room} {o:Op} (h:Nl R o=0):Zz R o.peer=false∧may o.name=true∧∀ q,q<9→R.names q≠[]→key (R.names q)≠key o.name:=by
 unfold Nl at h
 cases h1:Zz R o.peer
 rotate_left
 ·rw [h1] at h;simp at h
 rw [h1] at h
 cases h2:may o.name
 ·rw [h2] at h;simp at h
 rw [h2] at h
 simp only [Bool.false_eq_true,if_false,Bool.not_true] at h
 by_cases h3:(List.range 9).any (sameKey R o)=true
 ·rw [ZX h3] at h;exact absurd h Zd
 refine ⟨rfl,rfl,fun q hq hn e=>h3 (List.any_eq_true.2 ⟨q,by simpa using hq,?_⟩)⟩
 unfold sameKey
 simp [hn,e]
theorem sY {l:List UInt8} (h:may l=true):l≠[]:=by rintro rfl;cases h
theorem U2:Inv empty:=by
 refine ⟨⟨rfl,rfl⟩,?_,?_,?_,?_,?_⟩
 ·intro n p h;cases h
 ·intro n h;cases h
 ·intro n m x h;cases h
 ·intro p h;exact absurd rfl h
 ·intro p q h;exact absurd rfl h
theorem sN {R:Room} (hI:Inv R) {p:Nat} {nm:List UInt8} (hp:1≤p∧p<9) (h0:R.names p=[]) (hm:may nm=true) (hk:∀ q,q<9→R.names q≠[]→key (R.names q)≠key nm):Inv (R.setName p nm):=by
 have cM:∀ q,Zz R q=true→Zz (R.setName p nm) q=true:=by
  intro q h
  unfold Zz at h ⊢
  rw [Ui] at h ⊢
  refine ⟨h.1,?_⟩
  rw [Ym]
  split
  ·have:=sY hm
   simp [this]
  ·exact h.2
 refine ⟨⟨?_,hI.Q_.2⟩,?_,?_,hI.apart,?_,?_⟩
 ·rw [Ym,Z6 Zo];exact hI.Q_.1
 ·intro n q h
  have:=hI.Zx n q h
  have hq:q≠p:=by rintro rfl;exact this.2.2.2.2.2.1 h0
  rw [Ym,Z6 hq]
  exact this
 ·intro n h
  obtain ⟨h1,h2,h3,h4,h5⟩:=hI.Zq n h
  exact ⟨h1,h2,h3,cM _ h4,h5⟩
 ·intro q h
  rw [Ym] at h ⊢
  by_cases hq:q=p
  ·rw [ZX hq];exact ⟨Zo,hm⟩
  ·rw [Z6 hq] at h ⊢;exact hI.nameAt q h
 ·intro q r h e
  rw [Ym] at h
  rw [Ym,Ym] at e
  by_cases hq:q=p
  ·rw [ZX hq] at e
   by_cases hr:r=p
   ·omega
   ·rw [Z6 hr] at e
    by_cases hn:R.names r=[]
    ·rw [hn] at e;exact absurd e (Ip hm)
    ·exact absurd e.symm (hk r (hI.nameAt r hn).1 hn)
  ·rw [Z6 hq] at h e
   by_cases hr:r=p
   ·rw [ZX hr] at e
    exact absurd e (hk q (hI.nameAt q h).1 h)
   ·rw [Z6 hr] at e;exact hI.keys q r h e
theorem BG {R:Room} (hI:Inv R) {n p:Nat} {sv:Value} {ss:List Int} (hn:1≤n∧n<9) (hp:Zz R p=true) (h0:(R.src n).there=false) (h1:1≤ss.length) (h3:ss.length≤3) (hr:∀ s∈ss,2≤s∧s<3221225472) (hd:ss.Nodup) (hx:∀ m x,m<9→(R.src m).there=true→x∈ss→x ∉ (R.src m).ss) :
  Inv (R.Zt n ⟨true,n,p,sv,ss,false⟩):=by
 refine ⟨⟨hI.Q_.1,?_⟩,?_,?_,?_,hI.nameAt,hI.keys⟩
 ·rw [Xa,Z6 Zo];exact hI.Q_.2
 ·intro m q h
  have:=hI.Zx m q h
  have hm:m≠n:=by rintro rfl;rw [h0] at this;exact absurd this.2.2.2.2.1 Zd
  rw [Xa,Z6 hm]
  exact this
 ·intro m h
  rw [Xa] at h ⊢
  by_cases hm:m=n
  ·rw [ZX hm]
   exact ⟨Zo,Zo,by rw [hm],hp,h1,h3,hd,hr⟩
  ·rw [Z6 hm] at h ⊢;exact hI.Zq m h
 ·intro m k x a b c d
  rw [Xa] at a b c d
  by_cases hm:m=n
  ·by_cases hk:k=n
   ·omega
   ·rw [Z6 hk] at b d;rw [ZX hm] at c
    exact absurd d (hx k x (hI.Zq k b).2.1 b c)
  ·rw [Z6 hm] at a c
   by_cases hk:k=n
   ·rw [ZX hk] at d
    exact absurd c (hx m x (hI.Zq m a).2.1 a d)
   ·rw [Z6 hk] at b d;exact hI.apart m k x a b c d
theorem Jy {R:Room} (hI:Inv R) {n p:Nat} {x:Sub} (h:x.there=true→1≤n∧n<9∧1≤p∧p<9∧(R.src n).there=true∧R.names p≠[]∧(R.src n).own≠p∧0≤x.want∧x.want<(R.src n).ss.length):Inv (R.ZZ n p x):=by
 refine ⟨hI.Q_,?_,hI.Zq,hI.apart,hI.nameAt,hI.keys⟩
 intro m q ht
 rw [Wq] at ht ⊢
 by_cases h1:m=n∧q=p
 ·rw [ZX h1] at ht ⊢
  rw [h1.1,h1.2]
  exact h ht
 ·rw [Z6 h1] at ht ⊢;exact hI.Zx m q ht
theorem FC {R:Room} (hI:Inv R) (n:Nat) (on:Bool):Inv (R.Zt n {R.src n with ZE:=on}):=by
 have key:∀ m,((R.Zt n {R.src n with ZE:=on}).src m).there=(R.src m).there∧((R.Zt n {R.src n with ZE:=on}).src m).ss=(R.src m).ss∧((R.Zt n {R.src n with ZE:=on}).src m).own=(R.src m).own∧((R.Zt n {R.src n with ZE:=on}).src m).num=(R.src m).num:=by
  intro m
  rw [Xa]
  split
  ·rename_i h;subst h;exact ⟨rfl,rfl,rfl,rfl⟩
  ·exact ⟨rfl,rfl,rfl,rfl⟩
 refine ⟨⟨hI.Q_.1,?_⟩,?_,?_,?_,hI.nameAt,hI.keys⟩
 ·rw [(key 0).1];exact hI.Q_.2
 ·intro m q h
  rw [(key m).1,(key m).2.1,(key m).2.2.1]
  exact hI.Zx m q h
 ·intro m h
  rw [(key m).1] at h
  rw [(key m).2.1,(key m).2.2.1,(key m).2.2.2]
  exact hI.Zq m h
 ·intro m k x a b c d
  rw [(key m).1] at a;rw [(key k).1] at b;rw [(key m).2.1] at c;rw [(key k).2.1] at d
  exact hI.apart m k x a b c d
theorem vO {R:Room} {o:Op} (hI:Inv R) (ok:Ok R o) (sv:Value):Inv (turns R o sv).2:=by
 obtain ⟨kd,p,n,q,nm,ss⟩:=o
 obtain ⟨hk,hp,hj,ht,hs,yZ,oJ,MN⟩:=ok
 dsimp only at *
 obtain ⟨p,rfl⟩:=Rn (show 0≤p by omega)
 by_cases k2:kd=2
 ·subst k2
  obtain ⟨h1,h2,h3⟩:=xP (hj rfl)
  show Inv (R.setName p nm)
  refine sN hI (p:=p) Zo ?_ h2 h3
  rw [Ls,ne_eq,Io] at h1
  exact Classical.not_not.1 fun e=>h1 ⟨Zo,Zo,e⟩
 have hjp:=Io.1 (ht k2)
 by_cases k3:kd=3
 ·subst k3;show Inv (leave R p).2;exact vN hI p
 obtain ⟨n,rfl⟩:=Rn (show 0≤n by have:=hs Zo;omega)
 have hn:=hs Zo
 by_cases k4:kd=4
 ·subst k4
  obtain ⟨h1,h2,h3,h4,h5,h6⟩:=IE (yZ rfl)
  show Inv (R.Zt n ⟨true,n,p,sv,ss,false⟩)
  exact BG hI Zo (ht k2) h4 h1 h2 h3 h5 h6
 have oJ:=oJ Zo
 have his':(R.src n).there=true:=by rw [Xf] at oJ;exact oJ
 have MN:=MN Zo
 have PO:(R.sub n p).there=true→1≤n∧n<9∧1≤p∧p<9∧(R.src n).there=true∧R.names p≠[]∧(R.src n).own≠p∧0≤(R.sub n p).want∧(R.sub n p).want<(R.src n).ss.length:=hI.Zx n p
 by_cases k5:kd=5
 ·subst k5;show Inv (gone R n).2;exact Ii hI n
 by_cases k6:kd=6
 ·subst k6
  obtain ⟨h1,h2,h3⟩:=Pz MN rfl
  have h4:=PZ h3
  show Inv (R.ZZ n p ⟨true,false,q⟩)
  exact Jy hI fun _=>⟨Zo,Zo,Zo,Zo,his',hjp.2.2,h1,h4.1,h4.2⟩
 by_cases k7:kd=7
 ·subst k7;show Inv (R.ZZ n p VJ);exact xO hI n p
 by_cases k8:kd=8
 ·subst k8;show Inv (R.Zt n {R.src n with ZE:=true});exact FC hI n true
 by_cases k9:kd=9
 ·subst k9;show Inv (R.Zt n {R.src n with ZE:=false});exact FC hI n false
 obtain ⟨h1,_,_,h4⟩:=Uj MN (by right;show 10≤kd;omega)
 have hb:=PO h1
 by_cases k10:kd=10
 ·subst k10;show Inv (R.ZZ n p {R.sub n p with ZR:=true});exact Jy hI fun _=>hb
 by_cases k11:kd=11
 ·subst k11;show Inv (R.ZZ n p {R.sub n p with ZR:=false});exact Jy hI fun _=>hb
 have k12:kd=12:=by omega
 subst k12
 have h5:=PZ (h4 rfl).1
 show Inv (R.ZZ n p {R.sub n p with want:=q})
 exact Jy hI fun _=>⟨hb.1,hb.2.1,hb.2.2.1,hb.2.2.2.1,hb.2.2.2.2.1,hb.2.2.2.2.2.1,hb.2.2.2.2.2.2.1,h5.1,h5.2⟩
theorem Pc {R:Room} (hI:Inv R) (o:Op) (sv:Value):Inv (W9 R o sv).1.2:=by
 unfold W9
 by_cases h:Yo R o=0
 ·rw [Z6 (by simpa using h)];exact vO hI (QH h) sv
 ·rw [ZX h];exact hI
theorem MV {R:Room} (hI:Inv R) (p x:Int):Inv (Y7 R p x).1.2:=by
 unfold Y7
 split
 ·exact hI
 ·exact Ii hI _
def Src.bare (s:Src):Src:={s with sv:= .slice none 0 0}
def Room.bare (R:Room):Room:=⟨R.names,fun n=>(R.src n).bare,R.sub⟩
theorem FQ (R:Room) (x:Int):∀ k n,SH R.bare x k n=SH R x k n
 | 0,_=>rfl
 | k+1,n=>by
  show (if (R.src n).there && decide (0≤index (R.src n).ss x) then ((n:Int),index (R.src n).ss x,true) else SH R.bare x k (n+1))=_
  rw [FQ R x k (n+1)]
  rfl
theorem L6 (R:Room) (x:Int):of R.bare x=of R x:=FQ R x 9 0
theorem Ai (R:Room) (l:List Int):Wb R.bare l=Wb R l:=by
 funext i
 unfold Wb
 rw [L6]
theorem IG (R:Room) (o:Op):Wv R.bare o=Wv R o:=by
 unfold Wv
 rw [Ai]
 rfl
theorem Al (R:Room) (o:Op):Yo R.bare o=Yo R o:=by
 unfold Yo
 rw [IG]
 rfl
theorem QT (R:Room) (n:Nat) (x:Src):(R.Zt n x).bare=R.bare.Zt n x.bare:=by
 unfold Room.Zt Room.bare
 congr 1
 funext m
 dsimp only
 split <;> rfl
theorem J9 (n:Nat):∀ l R,XN n l R.bare=((XN n l R).1,(XN n l R).2.bare)
 | [],R=>rfl
 | p :: l,R=>by
  have ih:=J9 n l (R.ZZ n p VJ)
  show ((⟨3,p,n,0,0⟩:YE) :: ⟨2,p,n,0,0⟩ :: (XN n l (R.ZZ n p VJ).bare).1,(XN n l (R.ZZ n p VJ).bare).2)=_
  rw [ih]
  rfl
theorem NM (R:Room) (n:Nat):gone R.bare n=((gone R n).1,(gone R n).2.bare):=by
 unfold gone
 dsimp only
 rw [show Z8 R.bare n=Z8 R n from rfl,J9,QT]
 rfl
theorem Km (p:Nat) (R:Room):∀ k,ZP p R.bare k=((ZP p R k).1,(ZP p R k).2.bare)
 | 0=>rfl
 | k+1=>by
  have ih:=Km p R k
  unfold ZP
  dsimp only
  rw [ih]
  dsimp only
  show (if ((ZP p R k).2.sub k p).there=true then _ else _)=_
  split <;> rfl
theorem Ko (R:Room) (p:Nat):∀ k,ZM R.bare p k=((ZM R p k).1,(ZM R p k).2.bare)
 | 0=>rfl
 | k+1=>by
  have ih:=Ko R p k
  unfold ZM
  dsimp only
  rw [ih]
  dsimp only
  rw [NM]
  show (if ((R.src k).there && decide ((R.src k).own=p))=true then _ else _)=_
  split <;> rfl
theorem zo (R:Room) (p:Nat):leave R.bare p=((leave R p).1,(leave R p).2.bare):=by
 unfold leave
 rw [Km,Ko]
 rfl
theorem yJ (R:Room) (o:Op):begin R.bare o=((begin R o).1,(begin R o).2.bare):=rfl
theorem FL (R:Room) (n:Nat) (on:Bool):mute R.bare n on=((mute R n on).1,(mute R n on).2.bare):=by
 have h:R.bare.Zt n {R.bare.src n with ZE:=on}=(R.Zt n {R.src n with ZE:=on}).bare:=by rw [QT];rfl
 unfold mute
 dsimp only
 rw [h]
 rfl
theorem Ae (R:Room) (o:Op) (sv QB:Value):(turns R.bare o QB).1=(turns R o sv).1∧(turns R.bare o QB).2.bare=(turns R o sv).2.bare:=by
 have bb:∀ Q:Room,Q.bare.bare=Q.bare:=fun _=>rfl
 unfold turns
 dsimp only
 by_cases k2:o.kind=2
 ·rw [ZX k2,ZX k2];exact ⟨rfl,rfl⟩
 rw [Z6 k2,Z6 k2]
 by_cases k3:o.kind=3
 ·rw [ZX k3,ZX k3,zo];exact ⟨rfl,rfl⟩
 rw [Z6 k3,Z6 k3]
 by_cases k4:o.kind=4
 ·rw [ZX k4,ZX k4];exact ⟨rfl,by rw [QT,QT];rfl⟩
 rw [Z6 k4,Z6 k4]
 by_cases k5:o.kind=5
 ·rw [ZX k5,ZX k5,NM];exact ⟨rfl,rfl⟩
 rw [Z6 k5,Z6 k5]
 by_cases k6:o.kind=6
 ·rw [ZX k6,ZX k6,yJ];exact ⟨rfl,rfl⟩
 rw [Z6 k6,Z6 k6]
 by_cases k7:o.kind=7
 ·rw [ZX k7,ZX k7];exact ⟨rfl,rfl⟩
 rw [Z6 k7,Z6 k7]
 by_cases k8:o.kind=8
 ·rw [ZX k8,ZX k8,FL];exact ⟨rfl,rfl⟩
 rw [Z6 k8,Z6 k8]
 by_cases k9:o.kind=9
 ·rw [ZX k9,ZX k9,FL];exact ⟨rfl,rfl⟩
 rw [Z6 k9,Z6 k9]
 by_cases k10:o.kind=10
 ·rw [ZX k10,ZX k10];exact ⟨rfl,rfl⟩
 rw [Z6 k10,Z6 k10]
 by_cases k11:o.kind=11
 ·rw [ZX k11,ZX k11];exact ⟨rfl,rfl⟩
 rw [Z6 k11,Z6 k11]
 by_cases k12:o.kind=12
 ·rw [ZX k12,ZX k12];exact ⟨rfl,rfl⟩
 rw [Z6 k12,Z6 k12]
 exact ⟨rfl,rfl⟩
theorem Be (R:Room) (o:Op) (sv QB:Value):(W9 R.bare o QB).1.1=(W9 R o sv).1.1∧(W9 R.bare o QB).2=(W9 R o sv).2∧(W9 R.bare o QB).1.2.bare=(W9 R o sv).1.2.bare:=by
 unfold W9
 rw [Al]
 by_cases h:Yo R o=0
 ·rw [Z6 (by simpa using h),Z6 (by simpa using h)]
  obtain ⟨h1,h2⟩:=Ae R o sv QB
  exact ⟨h1,rfl,h2⟩
 ·rw [ZX h,ZX h]
  exact ⟨rfl,rfl,rfl⟩
end Go.Proofs.Rm
