/- Part of a proof. -/
import Derived.Test.YtpdjhlcbcomdkaaGreatDoorW02
set_option linter.unusedVariables false
set_option linter.unusedSimpArgs false
set_option maxRecDepth 100000
set_option maxHeartbeats 16000000
open Go Go.Q
namespace Go.Proofs.Od
open Go Go.Lib
theorem EK {l:List UInt8} (h:0<l.length):l≠[]:=List.length_pos_iff.1 h
def Dx:Nat→List UInt8→List (Nat × Nat)
 | 0,_=>[]
 | n+1,l=>if l=[] then [] else decodeL l :: Dx n (l.drop (decodeL l).2)
def rn (l:List UInt8):List (Nat × Nat):=Dx l.length l
theorem E0:∀ (n m:Nat) (l:List UInt8),l.length≤n→l.length≤m→Dx n l=Dx m l
 | 0,m,l,hn,_=>by
  have:l=[]:=Cc Zo
  subst this;cases m <;> simp [Dx]
 | n+1,0,l,_,hm=>by
  have:l=[]:=Cc Zo
  subst this;simp [Dx]
 | n+1,m+1,l,hn,hm=>by
  by_cases WM:l=[]
  ·simp [Dx,WM]
  ·have hw:=decodeL_width l
   have hl:0<l.length:=List.length_pos_iff.2 WM
   simp only [Dx,Z4 WM]
   rw [E0 n m _ (by rw [Rx];omega) (by rw [Rx];omega)]
theorem Dz:rn []=[]:=rfl
theorem RQ (l:List UInt8) (WM:l≠[]):rn l=decodeL l :: rn (l.drop (decodeL l).2):=by
 have hw:=decodeL_width l
 have hl:0<l.length:=List.length_pos_iff.2 WM
 unfold rn
 obtain ⟨n,hn⟩:∃ n,l.length=n+1:=⟨l.length-1,Zo⟩
 rw [hn,Dx,Z4 WM,E0 n _ _ (by rw [Rx];omega) (Zw _)]
theorem Mz {motive:List UInt8→Prop} (nil:motive []) (step:∀ l,l≠[]→motive (l.drop (decodeL l).2)→motive l) (l:List UInt8):motive l:=by
 have key:∀ n l,l.length≤n→motive l:=by
  intro n
  induction n with
  | zero=>intro l hl;have:l=[]:=Cc Zo;subst this;exact nil
  | succ n ih=>
   intro l hl
   by_cases WM:l=[]
   ·subst WM;exact nil
   ·have hw:=decodeL_width l
    have hl:0<l.length:=List.length_pos_iff.2 WM
    exact step l WM (ih _ (by rw [Rx];omega))
 exact key _ l (Zw _)
def good (p:Nat × Nat):Bool:= !(p.1 == 65533 && p.2 == 1)
def Ix (r:Nat):Bool:=decide (33≤r) && (decide (r<127) || decide (159<r)) && !(r == 65533)
def may (l:List UInt8):Bool:=(rn l).all (fun p=>Ix p.1) && decide (1≤(rn l).length) && decide ((rn l).length≤8)
def runes (l:List UInt8):Int:=if (rn l).all good then ((rn l).length:Int) else -1
def low (b:UInt8):UInt8:=if 65≤b.toNat∧b.toNat≤90 then b+32 else b
def key (l:List UInt8):List UInt8:=if may l then l.map low else []
def O4 (R:List (Nat × Nat)):Nat:=(R.map (·.2)).sum
def cutAt (l:List UInt8) (k:Nat):Nat:=O4 ((rn l).take k)
theorem ql {p:Nat × Nat} (h:Ix p.1=true):good p=true:=by
 unfold Ix at h;unfold good;simp at h ⊢;exact Ww h.2
theorem EG {l:List UInt8} (h:may l=true):(rn l).all good=true:=by
 unfold may at h
 simp only [TU] at h
 exact List.all_eq_true.2 fun p hp=>ql (List.all_eq_true.1 h.1.1 p hp)
theorem ur:∀ l,validD l=(rn l).all good:=by
 refine Mz rfl ?_
 intro l WM ih
 rw [validD_step l WM,RQ l WM,List.all_cons,ih]
 unfold good
 by_cases h:(decodeL l).1=65533∧(decodeL l).2=1
 ·simp [h]
 ·rw [Z4 h]
  have:((decodeL l).1 == 65533 && (decodeL l).2 == 1)=false:=by
   rw [K4];simpa using h
  simp [this]
theorem Fa:∀ l,O4 (rn l)=l.length:=by
 refine Mz rfl ?_
 intro l WM ih
 have h1:=decodeL_le l WM
 rw [RQ l WM]
 unfold O4 at *
 rw [List.map_cons,List.sum_cons,ih,Rx];omega
theorem Br (R:List (Nat × Nat)) (k:Nat):O4 (R.take k)≤O4 R:=by
 unfold O4
 induction R generalizing k with
 | nil=>simp
 | cons a R ih=>cases k with
  | zero=>simp
  | succ k=>simp only [List.take_succ_cons,List.map_cons,List.sum_cons];have:=ih k;omega
theorem Gx (l:List UInt8) (k:Nat):cutAt l k≤l.length:=by
 rw [←Fa l];exact Br _ _
theorem wJ (l:List UInt8):cutAt l 0=0:=rfl
theorem LL:∀ l,(rn l).length≤l.length:=by
 refine Mz (by simp [Dz]) ?_
 intro l WM ih
 have h1:=decodeL_le l WM
 have h2:=decodeL_width l
 rw [RQ l WM]
 rw [Rx] at ih
 simp;omega
theorem Dy:∀ l,∀ k,rn (l.drop (cutAt l k))=(rn l).drop k:=by
 refine Mz (by intro k;simp [Dz]) ?_
 intro l WM ih k
 cases k with
 | zero=>simp [wJ]
 | succ k=>
  have:=ih k
  unfold cutAt at *
  rw [RQ l WM,List.take_succ_cons,List.drop_succ_cons]
  unfold O4 at *
  rw [List.map_cons,List.sum_cons,←this,List.drop_drop]
theorem Gy (l:List UInt8) (k:Nat) (h:cutAt l k<l.length):cutAt l (k+1)=cutAt l k+(decodeL (l.drop (cutAt l k))).2:=by
 have WM:l.drop (cutAt l k)≠[]:=EK (by rw [Rx];omega)
 have h1:=Dy l k
 rw [RQ _ WM] at h1
 unfold cutAt at *
 have hk:(rn l)[k]?=some (decodeL (l.drop (O4 ((rn l).take k)))):=by
  have:=congrArg (·[0]?) h1
  simpa using this.symm
 rw [List.take_add_one,hk]
 unfold O4
 simp
theorem sK (l:List UInt8) (k:Nat):cutAt l k=l.length↔(rn l).length≤k:=by
 constructor
 ·intro h
  have h1:=Dy l k
  rw [h,List.drop_length,Dz] at h1
  have:=congrArg List.length h1
  rw [Rx] at this;simp at this;omega
 ·intro h
  unfold cutAt;rw [F5 h,Fa]
theorem K7 (l:List UInt8) (k:Nat):cutAt l k<l.length↔k<(rn l).length:=by
 have h1:=sK l k
 have h2:=Gx l k
 omega
theorem oz (l:List UInt8) (k:Nat) (h:k≤(rn l).length):k≤cutAt l k:=by
 induction k with
 | zero=>exact Tw _
 | succ k ih=>
  have:=(K7 l k).2 Zo
  have:=ih Zo
  rw [Gy l k S5]
  have:=decodeL_width (l.drop (cutAt l k))
  omega
theorem rn_at (l:List UInt8) (k:Nat) (h:k<(rn l).length):(rn l)[k]=decodeL (l.drop (cutAt l k)):=by
 have Po:=(K7 l k).2 h
 have WM:l.drop (cutAt l k)≠[]:=EK (by rw [Rx];omega)
 have h1:=Dy l k
 rw [RQ _ WM] at h1
 have:=congrArg (·[0]?) h1
 simp [U7 h] at this
 exact this.symm
theorem wL {p:Nat × Nat} (h:good p=false):p=(65533,1):=by
 unfold good at h;simp at h;exact Prod.ext h.1 h.2
theorem wK (l:List UInt8):(decodeL l).2≤4:=by
 rw [decodeL_N]
 rcases decodeN_shape l.length (l.getD 0 0).toNat (l.getD 1 0).toNat (l.getD 2 0).toNat (l.getD 3 0).toNat with ⟨c,e⟩|⟨c1,c2,c3,cv,e⟩|⟨c1,c2,c3,c4,cv,cs,e⟩|⟨c1,c2,c3,c4,c5,cv,cw,e⟩|e
 all_goals (rw [e];dsimp only;omega)
theorem xD:∀ l,l.length≤4*(rn l).length:=by
 refine Mz (by simp [Dz]) ?_
 intro l WM ih
 have h1:=wK l
 rw [Rx] at ih
 rw [RQ l WM,List.length_cons];omega
theorem vv {l:List UInt8} (h:may l=true):l.length≤32:=by
 have:=xD l
 unfold may at h;simp at h;omega
/-! Keys -/
def T6 (r:Nat):Nat:=if 65≤r∧r≤90 then r+32 else r
theorem Ry (b:UInt8):(low b).toNat=T6 b.toNat:=by
 unfold low T6
 split
 ·rename_i h
  rw [UInt8.toNat_add]
  have:(32:UInt8).toNat=32:=rfl
  rw [this];omega
 ·rfl
theorem Ld (l:List UInt8) (i:Nat):((l.map low).getD i 0).toNat=T6 (l.getD i 0).toNat:=by
 rw [Rw,Rw,List.getElem?_map]
 cases l[i]? with
 | none=>rfl
 | some b=>exact Ry b
theorem zX (n b0 b1 b2 b3:Nat):decodeN n (T6 b0) (T6 b1) (T6 b2) (T6 b3)=(T6 (decodeN n b0 b1 b2 b3).1,(decodeN n b0 b1 b2 b3).2):=by
 have hc:∀ b,128≤b→T6 b=b:=by intro b h;unfold T6;rw [Z4 Zo]
 have hl:∀ b,b<128→T6 b<128:=by intro b h;unfold T6;split <;> omega
 have h64:∀ b,T6 b / 64=2↔b / 64=2:=by
  intro b;unfold T6;split <;> omega
 by_cases h0:b0<128
 ·unfold decodeN;rw [ZQ (hl _ h0),ZQ h0]
 ·have e0:=hc b0 Zo
  rw [e0]
  have h8:∀ b,b / 64=2→T6 b=b:=fun b h=>hc b Zo
  by_cases k1:b1 / 64=2
  ·rw [h8 b1 k1]
   by_cases k2:b2 / 64=2
   ·rw [h8 b2 k2]
    by_cases k3:b3 / 64=2
    ·rw [h8 b3 k3]
     exact jW
    ·have k3':¬T6 b3 / 64=2:=fun h=>k3 ((h64 b3).1 h)
     have e3:decodeN n b0 b1 b2 (T6 b3)=decodeN n b0 b1 b2 b3:=by
      unfold decodeN
      rw [Z4 h0,Z4 h0]
      simp only [k3,k3',and_false,if_false]
     rw [e3]
     exact jW
   ·have k2':¬T6 b2 / 64=2:=fun h=>k2 ((h64 b2).1 h)
    have e3:decodeN n b0 b1 (T6 b2) (T6 b3)=decodeN n b0 b1 b2 b3:=by
     unfold decodeN
     rw [Z4 h0,Z4 h0]
     simp only [k2,k2',and_false,false_and,if_false]
    rw [e3]
    exact jW
  ·have k1':¬T6 b1 / 64=2:=fun h=>k1 ((h64 b1).1 h)
   have e3:decodeN n b0 (T6 b1) (T6 b2) (T6 b3)=decodeN n b0 b1 b2 b3:=by
    unfold decodeN
    rw [Z4 h0,Z4 h0]
    simp only [k1,k1',and_false,false_and,if_false]
   rw [e3]
   exact jW
theorem wM (l:List UInt8):decodeL (l.map low)=(T6 (decodeL l).1,(decodeL l).2):=by
 rw [decodeL_N,decodeL_N,Tx,Ld,Ld,Ld,Ld,zX]
theorem fy:∀ l,rn (l.map low)=(rn l).map fun p=>(T6 p.1,p.2):=by
 refine Mz rfl ?_
 intro l WM ih
 rw [RQ _ (by simpa using WM),RQ l WM,List.map_cons,wM]
 dsimp only
 rw [←List.map_drop,ih]
theorem lI (r:Nat):Ix (T6 r)=Ix r:=by
 unfold Ix T6
 split
 ·rename_i h
  rw [Bool.eq_iff_iff];simp;omega
 ·rfl
theorem vw (l:List UInt8):may (l.map low)=may l:=by
 unfold may
 rw [fy,Tx,List.all_map]
 congr 2
 apply List.all_congr rfl
 intro p;exact lI _
theorem lF (b:UInt8):low (low b)=low b:=by
 apply UInt8.toNat_inj.1
 rw [Ry,Ry];unfold T6;repeat' split
 all_goals omega
theorem p8 (l:List UInt8) (h:may l=true):(key l).length=l.length∧may (key l)=true∧key (key l)=key l:=by
 have e:key l=l.map low:=by unfold key;rw [ZQ h]
 rw [e]
 refine ⟨Tx _,by rw [vw,h],?_⟩
 unfold key
 rw [ZQ (by rw [vw,h]),List.map_map]
 congr 1
 funext b;exact lF b
def Ob (r:Int):Int:=if 65≤r∧r≤90 then r-65+97 else r
theorem Fu (l:List UInt8) (WM:l≠[]) (h:(decodeL l).1<128):∃ b t,l=b :: t∧b.toNat<128∧decodeL l=(b.toNat,1):=by
 cases l with
 | nil=>exact absurd rfl WM
 | cons b t=>
  refine ⟨b,t,rfl,?_⟩
  have e0:(b :: t).getD 0 0=b:=rfl
  rw [decodeL_N,e0] at h ⊢
  rcases decodeN_shape (b :: t).length b.toNat ((b :: t).getD 1 0).toNat ((b :: t).getD 2 0).toNat ((b :: t).getD 3 0).toNat with ⟨c,e⟩|⟨c1,c2,c3,cv,e⟩|⟨c1,c2,c3,c4,cv,cs,e⟩|⟨c1,c2,c3,c4,c5,cv,cw,e⟩|e
  ·exact ⟨c,e⟩
  all_goals (rw [e] at h;dsimp only at h;omega)
theorem IQ (r:Int) (h:128≤r):∀ b∈encodeRune r,low b=b:=by
 intro b hb
 have:128≤b.toNat:=by
  unfold encodeRune at hb
  obtain ⟨z,hz,rfl⟩:=wD.1 hb
  have h1:=encodeRuneZ_byte r z hz
  have h2:128≤z:=by
   unfold encodeRuneZ at hz
   repeat' split at hz
   all_goals simp at hz
   all_goals omega
  obtain ⟨n,rfl⟩:=QT h1.1
  simp;omega
 unfold low;rw [Z4 Zo]
theorem qd:∀ l,validD l=true→mapD Ob l=l.map low:=by
 refine Mz (fun _=>rfl) ?_
 intro l WM ih hv
 rw [validD_step l WM] at hv
 split at hv
 ·cases hv
 rename_i hg
 have ih:=ih hv
 by_cases h:(decodeL l).1<128
 ·obtain ⟨b,t,rfl,hb,hd⟩:=Fu l WM h
  rw [mapD_step _ _ WM,ih,hd]
  dsimp only [List.drop_succ_cons,List.drop_zero,List.map_cons]
  have h0:0≤Ob (b.toNat:Int):=by unfold Ob;split <;> omega
  rw [ZQ h0]
  have:encodeRune (Ob (b.toNat:Int))=[low b]:=by
   have e2:Ob (b.toNat:Int)=((low b).toNat:Int):=by
    rw [Ry];unfold Ob T6;repeat' split
    all_goals omega
   have h3:(low b).toNat<128:=by rw [Ry];unfold T6;split <;> omega
   rw [e2];unfold encodeRune;rw [encodeRuneZ_one Zo Zo]
   simp
  rw [this];rfl
 ·have hf:Ob ((decodeL l).1:Int)=(decodeL l).1:=by unfold Ob;rw [Z4 Zo]
  rw [mapD_same Ob l WM hf hg,ih,←encode_decode l WM hg]
  conv=>rhs;rw [←List.take_append_drop (decodeL l).2 l,N7,←encode_decode l WM hg]
  congr 1
  have:=IQ ((decodeL l).1:Int) Zo
  exact (List.map_congr_left this).symm▸(List.map_id _).symm
/-! One rune -/
end Go.Proofs.Od
namespace Go.Proofs.Rm
open Go.Proofs.Od (may key)
structure Op where
 kind:Int
 peer:Int
 source:Int
 ZF:Int
 name:List UInt8
 ZK:List Int
structure YD where
 kind:Int
 peer:Int
 source:Int
 ZF:Int
 Yy:Int
deriving DecidableEq
structure Src where
 there:Bool
 num:Int
 own:Int
 sv:Value
 ss:List Int
 ZG:Bool
structure Sub where
 there:Bool
 ZR:Bool
 want:Int
structure Room where
 names:Nat→List UInt8
 src:Nat→Src
 sub:Nat→Nat→Sub
def Um:Src:=⟨false,0,0,.slice none 0 0,[],false⟩
def Ve:Sub:=⟨false,false,0⟩
def empty:Room:=⟨fun _=>[],fun _=>Um,fun _ _=>Ve⟩
def Room.setName (R:Room) (p:Nat) (s:List UInt8):Room:={R with names:=fun q=>if q=p then s else R.names q}
def Room.Y6 (R:Room) (n:Nat) (s:Src):Room:={R with src:=fun q=>if q=n then s else R.src q}
def Room.ZP (R:Room) (n p:Nat) (x:Sub):Room:={R with sub:=fun m q=>if m=n∧q=p then x else R.sub m q}
def VK (n below:Int):Bool:=decide (1≤n) && decide (n<below)
def Ze (R:Room) (p:Int):Bool:=VK p 9 && !(R.names p.toNat).isEmpty
def index (l:List Int) (x:Int):Int:=match l.findIdx? (fun y=>y == x) with|some i=>i|none=> -1
def Sa (R:Room) (x:Int):Nat→Nat→Int × Int × Bool
 | 0,_=>(0,0,false)
 | k+1,n=>if (R.src n).there && decide (0≤index (R.src n).ss x) then ((n:Int),index (R.src n).ss x,true) else Sa R x k (n+1)
def of (R:Room) (x:Int):Int × Int × Bool:=Sa R x 9 0
def Zx (R:Room) (p n:Int):Bool:=VK p 9 && VK n 9 && (R.sub n.toNat p.toNat).there
def Z5 (R:Room) (n:Int):List Nat:=(List.range 9).filter fun p=>Zx R p n
def ZF (R:Room) (o:Op):Int:=if o.ZF<0∨((R.src o.source.toNat).ss.length:Int)≤o.ZF then 5 else 0
def heard (R:Room) (o:Op):Int:=
 let x:=R.sub o.source.toNat o.peer.toNat
 if !x.there then 8
 else if o.kind=10∧x.ZR=true then 9
 else if o.kind=11∧x.ZR=false then 11
 else if o.kind≠12 then 0
 else if ZF R o≠0 then ZF R o
 else if x.want=o.ZF then 9 else 0
def about (R:Room) (o:Op):Int:=
 let s:=R.src o.source.toNat
 if o.kind=5∨o.kind=8∨o.kind=9 then
  (if s.own≠o.peer then 10 else if o.kind=8∧s.ZG=true then 9 else if o.kind=9∧s.ZG=false then 11 else 0)
 else if o.kind=6 then
  (if s.own=o.peer then 10 else if (R.sub o.source.toNat o.peer.toNat).there then 9 else ZF R o)
 else heard R o
def VA (R:Room) (l:List Int) (i:Nat):Bool:=(of R (l.getD i 0)).2.2 || (l.take i).contains (l.getD i 0)
def VY (R:Room) (o:Op):Int:=
 if o.ZK.length<1∨3<o.ZK.length then 5
 else if o.ZK.any (fun s=>decide (s<2) || decide (3221225472≤s)) then 5
 else if (R.src o.source.toNat).there then 9
 else if (List.range o.ZK.length).any (VA R o.ZK) then 9 else 0
def sameKey (R:Room) (o:Op) (n:Nat):Bool:= !(R.names n).isEmpty && decide (key (R.names n)=key o.name)
def MO (R:Room) (o:Op):Int:=
 if Ze R o.peer then 9
 else if !may o.name then 12
 else if (List.range 9).any (sameKey R o) then 9 else 0
def X5 (R:Room) (o:Op):Int:=
 if o.kind<2∨12<o.kind then 4
 else if !VK o.peer 9 then 5
 else if o.kind=2 then MO R o
 else if !Ze R o.peer then 8
 else if o.kind=3 then 0
 else if !VK o.source 9 then 5
 else if o.kind=4 then VY R o
 else if !(R.src o.source.toNat).there then 8
 else about R o
def asks (R:Room) (p n:Nat):YD:=⟨9,(R.src n).own,n,0,(R.src n).ss.getD (R.sub n p).want.toNat 0⟩
def waits (R:Room) (p n:Nat):List YD:=if (R.sub n p).ZR || (R.src n).ZG then [] else [asks R p n]
def Xp (n:Nat):List Nat→Room→List YD × Room
 | [],R=>([],R)
 | p :: l,R=>let x:=Xp n l (R.ZP n p Ve);(⟨3,p,n,0,0⟩ :: ⟨2,p,n,0,0⟩ :: x.1,x.2)
def gone (R:Room) (n:Nat):List YD × Room:=
 let x:=Xp n (Z5 R n) R
 (x.1,x.2.Y6 n Um)
def ZM (p:Nat) (R:Room):Nat→List YD × Room
 | 0=>([],R)
 | k+1=>let x:=ZM p R k;if (x.2.sub k p).there then (x.1++[⟨2,p,k,0,0⟩],x.2.ZP k p Ve) else x
def ZI (R0:Room) (p:Nat):Nat→List YD × Room
 | 0=>([],R0)
 | k+1=>let x:=ZI R0 p k;if (R0.src k).there && decide ((R0.src k).own=p) then (x.1++(gone x.2 k).1,(gone x.2 k).2) else x
def leave (R:Room) (p:Nat):List YD × Room:=
 ((ZM p R 9).1++(ZI (ZM p R 9).2 p 9).1,(ZI (ZM p R 9).2 p 9).2.setName p [])
def begin (R:Room) (o:Op):List YD × Room:=
 let n:=o.source.toNat;let p:=o.peer.toNat
 let R1:=R.ZP n p ⟨true,false,o.ZF⟩
 (⟨1,o.peer,o.source,o.ZF,0⟩ :: (if (R.src n).ZG then [⟨6,o.peer,o.source,0,0⟩] else [asks R1 p n]),R1)
def Y5 (R:Room) (n:Nat) (on:Bool) (p:Nat):List YD:=
 if on then [⟨6,p,n,0,0⟩] else ⟨7,p,n,0,0⟩ :: waits R p n
def mute (R:Room) (n:Nat) (on:Bool):List YD × Room:=
 let R1:=R.Y6 n {R.src n with ZG:=on}
 ((Z5 R1 n).flatMap (Y5 R1 n on),R1)
def turns (R:Room) (o:Op) (sv:Value):List YD × Room:=
 let n:=o.source.toNat;let p:=o.peer.toNat;let x:=R.sub n p
 if o.kind=2 then ([],R.setName p o.name)
 else if o.kind=3 then leave R p
 else if o.kind=4 then ([],R.Y6 n ⟨true,o.source,o.peer,sv,o.ZK,false⟩)
 else if o.kind=5 then gone R n
 else if o.kind=6 then begin R o
 else if o.kind=7 then ([⟨2,o.peer,o.source,0,0⟩],R.ZP n p Ve)
 else if o.kind=8 then mute R n true
 else if o.kind=9 then mute R n false
 else if o.kind=10 then ([⟨4,o.peer,o.source,0,0⟩],R.ZP n p {x with ZR:=true})
 else if o.kind=11 then let R1:=R.ZP n p {x with ZR:=false};(⟨5,o.peer,o.source,0,0⟩ :: waits R1 p n,R1)
 else if o.kind=12 then let R1:=R.ZP n p {x with want:=o.ZF};(⟨8,o.peer,o.source,o.ZF,0⟩ :: waits R1 p n,R1)
 else ([],R)
def Wm (R:Room) (o:Op) (sv:Value):(List YD × Room) × Int:=if X5 R o≠0 then (([],R),X5 R o) else (turns R o sv,0)
def YS (R:Room) (peer Yy:Int):(List YD × Room) × Int:=
 if !(of R Yy).2.2 || !Ze R peer || decide ((R.src (of R Yy).1.toNat).own≠peer) then (([],R),8) else (gone R (of R Yy).1.toNat,0)
structure Inv (R:Room):Prop where
 QH:R.names 0=[]∧(R.src 0).there=false
 Zb:∀ n p,(R.sub n p).there=true→1≤n∧n<9∧1≤p∧p<9∧(R.src n).there=true∧R.names p≠[]∧(R.src n).own≠p∧0≤(R.sub n p).want∧(R.sub n p).want<(R.src n).ss.length
 YU:∀ n,(R.src n).there=true→1≤n∧n<9∧(R.src n).num=n∧Ze R (R.src n).own=true∧1≤(R.src n).ss.length∧(R.src n).ss.length≤3∧(R.src n).ss.Nodup∧∀ x∈(R.src n).ss,2≤x∧x<3221225472
 apart:∀ n m x,(R.src n).there=true→(R.src m).there=true→x∈(R.src n).ss→x∈(R.src m).ss→n=m
 nameAt:∀ p,R.names p≠[]→p<9∧may (R.names p)=true
 keys:∀ p q,R.names p≠[]→key (R.names p)=key (R.names q)→p=q
theorem VP (R:Room) (n p:Nat) (x:Sub) (m q:Nat):(R.ZP n p x).sub m q=if m=n∧q=p then x else R.sub m q:=rfl
theorem WA (R:Room) (n:Nat) (x:Src) (m:Nat):(R.Y6 n x).src m=if m=n then x else R.src m:=rfl
theorem Ya (R:Room) (p:Nat) (s:List UInt8) (q:Nat):(R.setName p s).names q=if q=p then s else R.names q:=rfl
theorem Li (n:Nat):∀ l R,(Xp n l R).2.names=R.names
 | [],_=>rfl
 | p :: l,R=>Li n l (R.ZP n p Ve)
theorem Ml (n:Nat):∀ l R,(Xp n l R).2.src=R.src
 | [],_=>rfl
 | p :: l,R=>Ml n l (R.ZP n p Ve)
theorem GK (n:Nat):∀ l R m q,(Xp n l R).2.sub m q=if m=n∧q∈l then Ve else R.sub m q
 | [],R,m,q=>by simp [Xp]
 | p :: l,R,m,q=>by
  show (Xp n l (R.ZP n p Ve)).2.sub m q=_
  rw [GK n l,VP]
  by_cases h1:m=n∧q∈l
  ·rw [ZQ h1,ZQ ⟨h1.1,List.mem_cons_of_mem _ h1.2⟩]
  ·rw [Z4 h1]
   by_cases h2:m=n∧q=p
   ·rw [ZQ h2,ZQ ⟨h2.1,by rw [h2.2];exact List.mem_cons_self⟩]
   ·rw [Z4 h2,Z4]
    rintro ⟨a,b⟩
    rcases Mg.1 b with b|b
    ·exact h2 ⟨a,b⟩
    ·exact h1 ⟨a,b⟩
theorem Df {n:Nat} {k:Int}:VK n k=true↔1≤n∧(n:Int)<k:=by unfold VK;simp;omega
theorem UQ {R:Room} {p n:Nat}:Zx R p n=true↔1≤p∧p<9∧1≤n∧n<9∧(R.sub n p).there=true:=by
 unfold Zx
 rw [TU,TU,Df,Df,Wv,Wv]
 exact ⟨fun ⟨⟨⟨a,b⟩,c,d⟩,e⟩=>⟨a,Zo,c,Zo,e⟩,fun ⟨a,b,c,d,e⟩=>⟨⟨⟨a,Zo⟩,c,Zo⟩,e⟩⟩
theorem Px {R:Room} {n p:Nat}:p∈Z5 R n↔1≤p∧p<9∧1≤n∧n<9∧(R.sub n p).there=true:=by
 unfold Z5
 rw [aN,List.mem_range,UQ]
 exact ⟨fun ⟨_,h⟩=>h,fun h=>⟨h.2.1,h⟩⟩
theorem Inv.Px {R:Room} (hI:Inv R) {n p:Nat}:p∈Z5 R n↔(R.sub n p).there=true:=by
 rw [Rm.Px]
 constructor
 ·exact fun h=>h.2.2.2.2
 ·intro h
  have:=hI.Zb n p h
  exact ⟨this.2.2.1,this.2.2.2.1,this.1,this.2.1,h⟩
theorem GM (R:Room) (n:Nat):(gone R n).2.names=R.names:=Li n _ _
theorem Pm (R:Room) (n m:Nat):(gone R n).2.src m=if m=n then Um else R.src m:=by
 show (((Xp n (Z5 R n) R).2).Y6 n Um).src m=_
 rw [WA,Ml]
theorem Ac (R:Room) (n m q:Nat):(gone R n).2.sub m q=if m=n∧q∈Z5 R n then Ve else R.sub m q:=GK n _ _ m q
theorem GN {R:Room} (hI:Inv R) (n m q:Nat):((gone R n).2.sub m q).there=true↔m≠n∧(R.sub m q).there=true:=by
 rw [Ac]
 by_cases h:m=n
 ·subst h
  by_cases h2:(R.sub m q).there=true
  ·rw [ZQ ⟨rfl,hI.Px.2 h2⟩];simp [Ve]
  ·rw [Z4 (fun h=>h2 (hI.Px.1 h.2))];simp [h2]
 ·rw [Z4 (fun e=>h e.1)];simp [h]
theorem kB (R:Room) {n m:Nat} (h:m≠n) (q:Nat):(gone R n).2.sub m q=R.sub m q:=by rw [Ac,Z4 (fun e=>h e.1)]
theorem Lu {R R':Room} (h:R'.names=R.names) (p:Int):Ze R' p=Ze R p:=by unfold Ze;rw [h]
theorem G8 {R:Room} {p:Nat}:Ze R p=true↔1≤p∧p<9∧R.names p≠[]:=by
 unfold Ze
 rw [TU,Df,Wv]
 have:(!(R.names p).isEmpty)=true↔R.names p≠[]:=by simp
 rw [this]
 exact ⟨fun ⟨⟨a,b⟩,c⟩=>⟨a,Zo,c⟩,fun ⟨a,b,c⟩=>⟨⟨a,Zo⟩,c⟩⟩
theorem G0 {R:Room} (hI:Inv R) (n:Nat):Inv (gone R n).2:=by
 have hn:=GM R n
 refine ⟨?_,?_,?_,?_,?_,?_⟩
 ·rw [hn,Pm]
  refine ⟨hI.QH.1,?_⟩
  split
  ·rfl
  ·exact hI.QH.2
 ·intro m q h
  obtain ⟨h1,h2⟩:=(GN hI n m q).1 h
  have:=hI.Zb m q h2
  rw [kB R h1,Pm,Z4 h1,hn]
  exact this
 ·intro m h
  rw [Pm] at h ⊢
  by_cases h1:m=n
  ·rw [ZQ h1] at h;cases h
  ·rw [Z4 h1] at h ⊢
   rw [Lu hn]
   exact hI.YU m h
 ·intro m k x h1 h2 h3 h4
  rw [Pm] at h1 h2 h3 h4
  by_cases hm:m=n
  ·rw [ZQ hm] at h1;cases h1
  by_cases hk:k=n
  ·rw [ZQ hk] at h2;cases h2
  rw [Z4 hm] at h1 h3
  rw [Z4 hk] at h2 h4
  exact hI.apart m k x h1 h2 h3 h4
 ·rw [hn];exact hI.nameAt
 ·rw [hn];exact hI.keys
theorem vp {R:Room} (hI:Inv R) (n p:Nat):Inv (R.ZP n p Ve):=by
 refine ⟨hI.QH,?_,hI.YU,hI.apart,hI.nameAt,hI.keys⟩
 intro m q h
 rw [VP] at h ⊢
 by_cases h1:m=n∧q=p
 ·rw [ZQ h1] at h;cases h
 ·rw [Z4 h1] at h ⊢
  exact hI.Zb m q h
theorem Rf {R:Room} (hI:Inv R) (p:Nat):∀ k,Inv (ZM p R k).2
 | 0=>hI
 | k+1=>by
  unfold ZM
  dsimp only
  split
  ·exact vp (Rf hI p k) k p
  ·exact Rf hI p k
theorem OG {R:Room} (hI:Inv R) (p:Nat):∀ k,Inv (ZI R p k).2
 | 0=>hI
 | k+1=>by
  unfold ZI
  dsimp only
  split
  ·exact G0 (OG hI p k) k
  ·exact OG hI p k
theorem RJ (R:Room) (p:Nat):∀ k,(ZM p R k).2.names=R.names∧(ZM p R k).2.src=R.src
 | 0=>⟨rfl,rfl⟩
 | k+1=>by
  unfold ZM
  dsimp only
  split
  ·exact RJ R p k
  ·exact RJ R p k
theorem Lv (R:Room) (p:Nat):∀ k m q,((ZM p R k).2.sub m q).there=((R.sub m q).there && !(decide (q=p) && decide (m<k)))
 | 0,m,q=>by simp [ZM]
 | k+1,m,q=>by
  have ih:=Lv R p k
  unfold ZM
  dsimp only
  by_cases ht:((ZM p R k).2.sub k p).there=true
  ·rw [ZQ ht]
   dsimp only
   rw [VP]
   by_cases h:m=k∧q=p
   ·rw [ZQ h,h.1,h.2];simp [Ve]
   ·rw [Z4 h,ih]
    by_cases hq:q=p
    ·have:m≠k:=fun e=>h ⟨e,hq⟩
     simp [hq]
     by_cases hm:m<k
     ·simp [hm,Nat.lt_succ_of_lt hm]
     ·have:¬m<k+1:=by omega
      simp [hm,this]
    ·simp [hq]
  ·rw [Z4 ht,ih]
   by_cases hq:q=p
   ·by_cases hm:m=k
    ·subst hm;subst hq
     rw [ih] at ht
     simp at ht
     simp [ht]
    ·simp [hq]
     by_cases aX:m<k
     ·simp [aX,Nat.lt_succ_of_lt aX]
     ·have:¬m<k+1:=by omega
      simp [aX,this]
   ·simp [hq]
theorem OM (R:Room) (p:Nat):∀ k,(ZI R p k).2.names=R.names
 | 0=>rfl
 | k+1=>by
  unfold ZI
  dsimp only
  split
  ·dsimp only;rw [GM];exact OM R p k
  ·exact OM R p k
theorem OO (R:Room) (p:Nat):∀ k m,(ZI R p k).2.src m=if m<k∧(R.src m).there=true∧(R.src m).own=p then Um else R.src m
 | 0,m=>by simp [ZI]
 | k+1,m=>by
  have ih:=OO R p k m
  unfold ZI
  dsimp only
  by_cases hc:((R.src k).there && decide ((R.src k).own=p))=true
  ·rw [ZQ hc]
   dsimp only
   rw [Pm]
   rw [TU,Oh] at hc
   by_cases hm:m=k
   ·subst hm;rw [ZQ rfl,ZQ ⟨Zo,hc.1,hc.2⟩]
   ·rw [Z4 hm,ih]
    have:m<k+1↔m<k:=by omega
    simp only [this]
  ·rw [Z4 hc,ih]
   rw [TU,Oh] at hc
   by_cases hm:m=k
   ·subst hm
    rw [Z4 Zo,Z4 (fun h=>hc ⟨h.2.1,h.2.2⟩)]
   ·have:m<k+1↔m<k:=by omega
    simp only [this]
theorem Lx {R:Room} (hI:Inv R) (p:Nat):∀ k m q,((ZI R p k).2.sub m q).there=true↔(R.sub m q).there=true∧¬(m<k∧(R.src m).there=true∧(R.src m).own=p)
 | 0,m,q=>by simp [ZI]
 | k+1,m,q=>by
  have ih:=Lx hI p k m q
  unfold ZI
  dsimp only
  by_cases hc:((R.src k).there && decide ((R.src k).own=p))=true
  ·rw [ZQ hc]
   dsimp only
   rw [GN (OG hI p k),ih]
   rw [TU,Oh] at hc
   by_cases hm:m=k
   ·subst hm
    constructor
    ·rintro ⟨h,_⟩;exact absurd rfl h
    ·rintro ⟨_,h⟩;exact absurd ⟨Zo,hc⟩ h
   ·have:m<k+1↔m<k:=by omega
    rw [this]
    exact ⟨fun h=>h.2,fun h=>⟨hm,h⟩⟩
  ·rw [Z4 hc,ih]
   rw [TU,Oh] at hc
   by_cases hm:m=k
   ·subst hm
    constructor
    ·rintro ⟨h,_⟩;exact ⟨h,fun e=>hc e.2⟩
    ·rintro ⟨h,_⟩;exact ⟨h,fun e=>by omega⟩
   ·have:m<k+1↔m<k:=by omega
    rw [this]
theorem G9 {l:List UInt8} (h:may l=true):key l≠[]:=by
 intro e
 have h1:=(Od.p8 l h).1
 rw [e] at h1
 have:l=[]:=Cc h1.symm
 subst this
 cases h
theorem xj {R:Room} (hI:Inv R) (p:Nat) (hs:∀ m,(R.src m).there=true→(R.src m).own≠p) (hu:∀ m,(R.sub m p).there=false):Inv (R.setName p []):=by
 refine ⟨⟨?_,hI.QH.2⟩,?_,?_,hI.apart,?_,?_⟩
 ·rw [Ya];split
  ·rfl
  ·exact hI.QH.1
 ·intro m q h
  have h0:=hI.Zb m q h
  have hq:q≠p:=by
   rintro rfl
   have h2:=hu m
   have h3:(R.sub m q).there=true:=h
   rw [h2] at h3;cases h3
  rw [Ya,Z4 hq]
  exact h0
 ·intro m h
  obtain ⟨h1,h2,h3,h4,h5⟩:=hI.YU m h
  refine ⟨h1,h2,h3,?_,h5⟩
  have ho:=hs m h
  show Ze (R.setName p []) (R.src m).own=true
  unfold Ze at h4 ⊢
  rw [TU] at h4 ⊢
  refine ⟨h4.1,?_⟩
  rw [Ya,Z4]
  ·exact h4.2
  ·intro e
   have:=h4.1
   unfold VK at this
   simp at this
   omega
 ·intro q h
  rw [Ya] at h ⊢
  by_cases hq:q=p
  ·rw [ZQ hq] at h;exact absurd rfl h
  ·rw [Z4 hq] at h ⊢;exact hI.nameAt q h
 ·intro q r h e
  rw [Ya] at h e
  by_cases hq:q=p
  ·rw [ZQ hq] at h;exact absurd rfl h
  rw [Z4 hq] at h e
  rw [Ya] at e
  by_cases hr:r=p
  ·rw [ZQ hr] at e
   exact absurd e (G9 (hI.nameAt q h).2)
  ·rw [Z4 hr] at e
   exact hI.keys q r h e
theorem tH {R:Room} (hI:Inv R) (p:Nat):Inv (leave R p).2:=by
 have h1:=Rf hI p 9
 refine xj (OG h1 p 9) p ?_ ?_
 ·intro m h
  rw [OO] at h ⊢
  by_cases hc:m<9∧((ZM p R 9).2.src m).there=true∧((ZM p R 9).2.src m).own=p
  ·rw [ZQ hc] at h;cases h
  ·rw [Z4 hc] at h ⊢
   intro e
   exact hc ⟨(h1.YU m h).2.1,h,e⟩
 ·intro m
  rw [K4]
  intro h
  have h2:=((Lx h1 p 9 m p).1 h).1
  have h3:=h1.Zb m p h2
  rw [Lv] at h2
  simp at h2
  omega
end Go.Proofs.Rm
namespace Go.Proofs.Rm
open Go.Proofs.Od (may key)
structure Ok (R:Room) (o:Op):Prop where
 kind:2≤o.kind∧o.kind≤12
 peer:1≤o.peer∧o.peer<9
 join:o.kind=2→MO R o=0
 there:o.kind≠2→Ze R o.peer=true
 src:4≤o.kind→1≤o.source∧o.source<9
 Ds:o.kind=4→VY R o=0
 is:5≤o.kind→(R.src o.source.toNat).there=true
 abt:5≤o.kind→about R o=0
theorem XW (n k:Int):VK n k=true↔1≤n∧n<k:=by unfold VK;simp
theorem PT {R:Room} {o:Op} (h:X5 R o=0):Ok R o:=by
 unfold X5 at h
 by_cases h1:o.kind<2∨12<o.kind
 ·rw [ZQ h1] at h;exact absurd h Zd
 rw [Z4 h1] at h
 by_cases h2:VK o.peer 9=true
 rotate_left
 ·simp [h2] at h
 simp only [h2,Bool.not_true,Bool.false_eq_true,if_false] at h
 have hp:=(XW _ _).1 h2
 by_cases h3:o.kind=2
 ·rw [ZQ h3] at h
  exact ⟨Zo,hp,fun _=>h,fun e=>absurd h3 e,Zo,Zo,Zo,Zo⟩
 rw [Z4 h3] at h
 by_cases h4:Ze R o.peer=true
 rotate_left
 ·simp [h4] at h
 simp only [h4,Bool.not_true,Bool.false_eq_true,if_false] at h
 by_cases h5:o.kind=3
 ·exact ⟨Zo,hp,Zo,fun _=>h4,Zo,Zo,Zo,Zo⟩
 rw [Z4 h5] at h
 by_cases h6:VK o.source 9=true
 rotate_left
 ·simp [h6] at h
 simp only [h6,Bool.not_true,Bool.false_eq_true,if_false] at h
 have hs:=(XW _ _).1 h6
 by_cases h7:o.kind=4
 ·rw [ZQ h7] at h
  exact ⟨Zo,hp,Zo,fun _=>h4,fun _=>hs,fun _=>h,Zo,Zo⟩
 rw [Z4 h7] at h
 by_cases h8:(R.src o.source.toNat).there=true
 rotate_left
 ·simp [h8] at h
 simp only [h8,Bool.not_true,Bool.false_eq_true,if_false] at h
 exact ⟨Zo,hp,Zo,fun _=>h4,fun _=>hs,Zo,fun _=>h8,fun _=>h⟩
theorem Pw {R:Room} {o:Op} (h:ZF R o=0):0≤o.ZF∧o.ZF<(R.src o.source.toNat).ss.length:=by
 unfold ZF at h
 by_cases h1:o.ZF<0∨((R.src o.source.toNat).ss.length:Int)≤o.ZF
 ·rw [ZQ h1] at h;exact absurd h Zd
 ·omega
theorem Pc {R:Room} {o:Op} (h:about R o=0) (hk:o.kind=6):(R.src o.source.toNat).own≠o.peer∧(R.sub o.source.toNat o.peer.toNat).there=false∧ZF R o=0:=by
 unfold about at h
 dsimp only at h
 rw [Z4 Zo,ZQ hk] at h
 by_cases h1:(R.src o.source.toNat).own=o.peer
 ·rw [ZQ h1] at h;exact absurd h Zd
 rw [Z4 h1] at h
 cases ht:(R.sub o.source.toNat o.peer.toNat).there
 ·rw [ht] at h;exact ⟨h1,rfl,h⟩
 ·rw [ht] at h;simp at h
theorem TL {R:Room} {o:Op} (h:about R o=0) (hk:o.kind=7∨10≤o.kind) :
  (R.sub o.source.toNat o.peer.toNat).there=true∧(o.kind=10→(R.sub o.source.toNat o.peer.toNat).ZR=false)∧(o.kind=11→(R.sub o.source.toNat o.peer.toNat).ZR=true)∧(o.kind=12→ZF R o=0∧(R.sub o.source.toNat o.peer.toNat).want≠o.ZF):=by
 unfold about at h
 dsimp only at h
 rw [Z4 Zo,Z4 Zo] at h
 unfold heard at h
 dsimp only at h
 cases ht:(R.sub o.source.toNat o.peer.toNat).there
 ·rw [ht] at h;simp at h
 rw [ht] at h
 simp only [Bool.not_true,Bool.false_eq_true,if_false] at h
 refine ⟨rfl,?_,?_,?_⟩
 ·intro uT
  cases hm:(R.sub o.source.toNat o.peer.toNat).ZR
  ·rfl
  ·rw [ZQ ⟨uT,hm⟩] at h;exact absurd h Zd
 ·intro h11
  rw [Z4 Zo] at h
  cases hm:(R.sub o.source.toNat o.peer.toNat).ZR
  ·rw [ZQ ⟨h11,hm⟩] at h;exact absurd h Zd
  ·rfl
 ·intro h12
  rw [Z4 Zo,Z4 Zo,Z4 Zo] at h
  by_cases hl:ZF R o=0
  ·rw [Z4 Zo] at h
   refine ⟨hl,fun e=>?_⟩
   rw [ZQ e] at h;exact absurd h Zd
  ·rw [ZQ hl] at h;exact absurd h hl
theorem Ko (l:List Int) (x:Int):0≤index l x↔x∈l:=by
 unfold index
 cases h:l.findIdx? (fun y=>y == x) with
 | none=>
  have:=List.findIdx?_eq_none_iff.1 h
  constructor
  ·intro h;exact absurd h Zd
  ·intro hx;have:=this x hx;simp at this
 | some i=>
  obtain ⟨hi,h1,_⟩:=List.findIdx?_eq_some_iff_getElem.1 h
  have h1:l[i]=x:=by simpa using h1
  exact ⟨fun _=>by rw [←h1];exact Ot hi,fun _=>rq _⟩
theorem EM (R:Room) (x:Int):∀ k n,(Sa R x k n).2.2=false↔∀ m,n≤m→m<n+k→(R.src m).there=true→x ∉ (R.src m).ss
 | 0,n=>by simp [Sa];omega
 | k+1,n=>by
  unfold Sa
  by_cases hc:((R.src n).there && decide (0≤index (R.src n).ss x))=true
  ·rw [ZQ hc]
   rw [TU,Oh,Ko] at hc
   constructor
   ·intro h;cases h
   ·intro h;exact absurd hc.2 (h n (Zw _) Zo hc.1)
  ·rw [Z4 hc,EM R x k (n+1)]
   rw [TU,Oh,Ko] at hc
   constructor
   ·intro h m h1 h2 h3 h4
    by_cases e:m=n
    ·subst e;exact hc ⟨h3,h4⟩
    ·exact h m Zo Zo h3 h4
   ·intro h m h1 h2;exact h m Zo Zo
theorem vD {R:Room} {x:Int}:(of R x).2.2=false↔∀ m,m<9→(R.src m).there=true→x ∉ (R.src m).ss:=by
 unfold of
 rw [EM]
 exact ⟨fun h m hm=>h m (Tw _) Zo,fun h m _ hm=>h m Zo⟩
theorem EN (R:Room) (x:Int):∀ k n,(Sa R x k n).2.2=true→∃ m:Nat,n≤m∧m<n+k∧(R.src m).there=true∧x∈(R.src m).ss∧Sa R x k n=((m:Int),index (R.src m).ss x,true)
 | 0,n,h=>by simp [Sa] at h
 | k+1,n,h=>by
  unfold Sa at h ⊢
  by_cases hc:((R.src n).there && decide (0≤index (R.src n).ss x))=true
  ·rw [ZQ hc] at h ⊢
   rw [TU,Oh,Ko] at hc
   exact ⟨n,Zw _,Zo,hc.1,hc.2,rfl⟩
  ·rw [Z4 hc] at h ⊢
   obtain ⟨m,h1,h2,h3⟩:=EN R x k (n+1) h
   exact ⟨m,Zo,Zo,h3⟩
theorem QI {R:Room} {x:Int} (h:(of R x).2.2=true):∃ m:Nat,m<9∧(R.src m).there=true∧x∈(R.src m).ss∧of R x=((m:Int),index (R.src m).ss x,true):=by
 obtain ⟨m,_,h2,h3⟩:=EN R x 9 0 h
 exact ⟨m,Zo,h3⟩
theorem Hd (l:List Int) (h:∀ i,i<l.length→(l.take i).contains (l.getD i 0)=false):l.Nodup:=by
 unfold List.Nodup
 rw [List.pairwise_iff_getElem]
 intro i j hi hj dX e
 have:=h j hj
 rw [Rw,U7 hj,Option.getD_some] at this
 rw [←e] at this
 have hm:l[i]∈l.take j:=by
  rw [List.mem_iff_getElem]
  exact ⟨i,by rw [Tg];omega,by rw [List.getElem_take]⟩
 rw [List.contains_iff_mem.2 hm] at this
 cases this
theorem Hl {R:Room} {o:Op} (h:VY R o=0):1≤o.ZK.length∧o.ZK.length≤3∧(∀ s∈o.ZK,2≤s∧s<3221225472)∧(R.src o.source.toNat).there=false∧o.ZK.Nodup∧∀ m x,m<9→(R.src m).there=true→x∈o.ZK→x ∉ (R.src m).ss:=by
 unfold VY at h
 by_cases h1:o.ZK.length<1∨3<o.ZK.length
 ·rw [ZQ h1] at h;exact absurd h Zd
 rw [Z4 h1] at h
 by_cases h2:o.ZK.any (fun s=>decide (s<2) || decide (3221225472≤s))=true
 ·rw [ZQ h2] at h;exact absurd h Zd
 rw [Z4 h2] at h
 by_cases h3:(R.src o.source.toNat).there=true
 ·rw [ZQ h3] at h;exact absurd h Zd
 rw [Z4 h3] at h
 by_cases h4:(List.range o.ZK.length).any (VA R o.ZK)=true
 ·rw [ZQ h4] at h;exact absurd h Zd
 have h5:∀ i,i<o.ZK.length→(of R (o.ZK.getD i 0)).2.2=false∧(o.ZK.take i).contains (o.ZK.getD i 0)=false:=by
  intro i hi
  have:¬VA R o.ZK i=true:=fun e=>h4 (List.any_eq_true.2 ⟨i,by simpa using hi,e⟩)
  unfold VA at this
  rw [Bool.or_eq_true] at this
  exact ⟨K4.2 fun e=>this (Ww e),K4.2 fun e=>this (Wi e)⟩
 refine ⟨Zo,Zo,?_,by simpa using h3,Hd _ fun i hi=>(h5 i hi).2,?_⟩
 ·intro s hs
  have:¬(decide (s<2) || decide (3221225472≤s))=true:=fun e=>h2 (List.any_eq_true.2 ⟨s,hs,e⟩)
  simp at this;omega
 ·intro m x hm ht hx
  obtain ⟨i,hi,rfl⟩:=List.getElem_of_mem hx
  have:=(h5 i hi).1
  rw [Rw,U7 hi,Option.getD_some,vD] at this
  exact this m hm ht
theorem vq {R:Room} {o:Op} (h:MO R o=0):Ze R o.peer=false∧may o.name=true∧∀ q,q<9→R.names q≠[]→key (R.names q)≠key o.name:=by
 unfold MO at h
 cases h1:Ze R o.peer
 rotate_left
 ·rw [h1] at h;simp at h
 rw [h1] at h
 cases h2:may o.name
 ·rw [h2] at h;simp at h
 rw [h2] at h
 simp only [Bool.false_eq_true,if_false,Bool.not_true] at h
 by_cases h3:(List.range 9).any (sameKey R o)=true
 ·rw [ZQ h3] at h;exact absurd h Zd
 refine ⟨rfl,rfl,fun q hq hn e=>h3 (List.any_eq_true.2 ⟨q,by simpa using hq,?_⟩)⟩
 unfold sameKey
 simp [hn,e]
theorem qf {l:List UInt8} (h:may l=true):l≠[]:=by rintro rfl;cases h
theorem SQ:Inv empty:=by
 refine ⟨⟨rfl,rfl⟩,?_,?_,?_,?_,?_⟩
 ·intro n p h;cases h
 ·intro n h;cases h
 ·intro n m x h;cases h
 ·intro p h;exact absurd rfl h
 ·intro p q h;exact absurd rfl h
theorem pY {R:Room} (hI:Inv R) {p:Nat} {nm:List UInt8} (hp:1≤p∧p<9) (h0:R.names p=[]) (hm:may nm=true) (hk:∀ q,q<9→R.names q≠[]→key (R.names q)≠key nm):Inv (R.setName p nm):=by
 have hjoin:∀ q,Ze R q=true→Ze (R.setName p nm) q=true:=by
  intro q h
  unfold Ze at h ⊢
  rw [TU] at h ⊢
  refine ⟨h.1,?_⟩
  rw [Ya]
  split
  ·have:=qf hm
   simp [this]
  ·exact h.2
 refine ⟨⟨?_,hI.QH.2⟩,?_,?_,hI.apart,?_,?_⟩
 ·rw [Ya,Z4 Zo];exact hI.QH.1
 ·intro n q h
  have:=hI.Zb n q h
  have hq:q≠p:=by rintro rfl;exact this.2.2.2.2.2.1 h0
  rw [Ya,Z4 hq]
  exact this
 ·intro n h
  obtain ⟨h1,h2,h3,h4,h5⟩:=hI.YU n h
  exact ⟨h1,h2,h3,hjoin _ h4,h5⟩
 ·intro q h
  rw [Ya] at h ⊢
  by_cases hq:q=p
  ·rw [ZQ hq];exact ⟨Zo,hm⟩
  ·rw [Z4 hq] at h ⊢;exact hI.nameAt q h
 ·intro q r h e
  rw [Ya] at h
  rw [Ya,Ya] at e
  by_cases hq:q=p
  ·rw [ZQ hq] at e
   by_cases hr:r=p
   ·omega
   ·rw [Z4 hr] at e
    by_cases hn:R.names r=[]
    ·rw [hn] at e;exact absurd e (G9 hm)
    ·exact absurd e.symm (hk r (hI.nameAt r hn).1 hn)
  ·rw [Z4 hq] at h e
   by_cases hr:r=p
   ·rw [ZQ hr] at e
    exact absurd e (hk q (hI.nameAt q h).1 h)
   ·rw [Z4 hr] at e;exact hI.keys q r h e
theorem Aw {R:Room} (hI:Inv R) {n p:Nat} {sv:Value} {ss:List Int} (hn:1≤n∧n<9) (hp:Ze R p=true) (h0:(R.src n).there=false) (h1:1≤ss.length) (h3:ss.length≤3) (hr:∀ s∈ss,2≤s∧s<3221225472) (hd:ss.Nodup) (hx:∀ m x,m<9→(R.src m).there=true→x∈ss→x ∉ (R.src m).ss) :
  Inv (R.Y6 n ⟨true,n,p,sv,ss,false⟩):=by
 refine ⟨⟨hI.QH.1,?_⟩,?_,?_,?_,hI.nameAt,hI.keys⟩
 ·rw [WA,Z4 Zo];exact hI.QH.2
 ·intro m q h
  have:=hI.Zb m q h
  have hm:m≠n:=by rintro rfl;rw [h0] at this;exact absurd this.2.2.2.2.1 Zd
  rw [WA,Z4 hm]
  exact this
 ·intro m h
  rw [WA] at h ⊢
  by_cases hm:m=n
  ·rw [ZQ hm]
   exact ⟨Zo,Zo,by rw [hm],hp,h1,h3,hd,hr⟩
  ·rw [Z4 hm] at h ⊢;exact hI.YU m h
 ·intro m k x a b c d
  rw [WA] at a b c d
  by_cases hm:m=n
  ·by_cases hk:k=n
   ·omega
   ·rw [Z4 hk] at b d;rw [ZQ hm] at c
    exact absurd d (hx k x (hI.YU k b).2.1 b c)
  ·rw [Z4 hm] at a c
   by_cases hk:k=n
   ·rw [ZQ hk] at d
    exact absurd c (hx m x (hI.YU m a).2.1 a d)
   ·rw [Z4 hk] at b d;exact hI.apart m k x a b c d
theorem Ir {R:Room} (hI:Inv R) {n p:Nat} {x:Sub} (h:x.there=true→1≤n∧n<9∧1≤p∧p<9∧(R.src n).there=true∧R.names p≠[]∧(R.src n).own≠p∧0≤x.want∧x.want<(R.src n).ss.length):Inv (R.ZP n p x):=by
 refine ⟨hI.QH,?_,hI.YU,hI.apart,hI.nameAt,hI.keys⟩
 intro m q ht
 rw [VP] at ht ⊢
 by_cases h1:m=n∧q=p
 ·rw [ZQ h1] at ht ⊢
  rw [h1.1,h1.2]
  exact h ht
 ·rw [Z4 h1] at ht ⊢;exact hI.Zb m q ht
theorem Ez {R:Room} (hI:Inv R) (n:Nat) (on:Bool):Inv (R.Y6 n {R.src n with ZG:=on}):=by
 have key:∀ m,((R.Y6 n {R.src n with ZG:=on}).src m).there=(R.src m).there∧((R.Y6 n {R.src n with ZG:=on}).src m).ss=(R.src m).ss∧((R.Y6 n {R.src n with ZG:=on}).src m).own=(R.src m).own∧((R.Y6 n {R.src n with ZG:=on}).src m).num=(R.src m).num:=by
  intro m
  rw [WA]
  split
  ·rename_i h;subst h;exact ⟨rfl,rfl,rfl,rfl⟩
  ·exact ⟨rfl,rfl,rfl,rfl⟩
 refine ⟨⟨hI.QH.1,?_⟩,?_,?_,?_,hI.nameAt,hI.keys⟩
 ·rw [(key 0).1];exact hI.QH.2
 ·intro m q h
  rw [(key m).1,(key m).2.1,(key m).2.2.1]
  exact hI.Zb m q h
 ·intro m h
  rw [(key m).1] at h
  rw [(key m).2.1,(key m).2.2.1,(key m).2.2.2]
  exact hI.YU m h
 ·intro m k x a b c d
  rw [(key m).1] at a;rw [(key k).1] at b;rw [(key m).2.1] at c;rw [(key k).2.1] at d
  exact hI.apart m k x a b c d
theorem tI {R:Room} {o:Op} (hI:Inv R) (ok:Ok R o) (sv:Value):Inv (turns R o sv).2:=by
 obtain ⟨kd,p,n,q,nm,ss⟩:=o
 obtain ⟨hk,hp,hj,ht,hs,xd,kY,Mo⟩:=ok
 dsimp only at *
 obtain ⟨p,rfl⟩:=QT (show 0≤p by omega)
 by_cases k2:kd=2
 ·subst k2
  obtain ⟨h1,h2,h3⟩:=vq (hj rfl)
  show Inv (R.setName p nm)
  refine pY hI (p:=p) Zo ?_ h2 h3
  rw [K4,ne_eq,G8] at h1
  exact Classical.not_not.1 fun e=>h1 ⟨Zo,Zo,e⟩
 have hjp:=G8.1 (ht k2)
 by_cases k3:kd=3
 ·subst k3;show Inv (leave R p).2;exact tH hI p
 obtain ⟨n,rfl⟩:=QT (show 0≤n by have:=hs Zo;omega)
 have hn:=hs Zo
 by_cases k4:kd=4
 ·subst k4
  obtain ⟨h1,h2,h3,h4,h5,h6⟩:=Hl (xd rfl)
  show Inv (R.Y6 n ⟨true,n,p,sv,ss,false⟩)
  exact Aw hI Zo (ht k2) h4 h1 h2 h3 h5 h6
 have kY:=kY Zo
 have his':(R.src n).there=true:=by rw [Wv] at kY;exact kY
 have Mo:=Mo Zo
 have Sk:(R.sub n p).there=true→1≤n∧n<9∧1≤p∧p<9∧(R.src n).there=true∧R.names p≠[]∧(R.src n).own≠p∧0≤(R.sub n p).want∧(R.sub n p).want<(R.src n).ss.length:=hI.Zb n p
 by_cases k5:kd=5
 ·subst k5;show Inv (gone R n).2;exact G0 hI n
 by_cases k6:kd=6
 ·subst k6
  obtain ⟨h1,h2,h3⟩:=Pc Mo rfl
  have h4:=Pw h3
  show Inv (R.ZP n p ⟨true,false,q⟩)
  exact Ir hI fun _=>⟨Zo,Zo,Zo,Zo,his',hjp.2.2,h1,h4.1,h4.2⟩
 by_cases k7:kd=7
 ·subst k7;show Inv (R.ZP n p Ve);exact vp hI n p
 by_cases k8:kd=8
 ·subst k8;show Inv (R.Y6 n {R.src n with ZG:=true});exact Ez hI n true
 by_cases k9:kd=9
 ·subst k9;show Inv (R.Y6 n {R.src n with ZG:=false});exact Ez hI n false
 obtain ⟨h1,_,_,h4⟩:=TL Mo (by right;show 10≤kd;omega)
 have hb:=Sk h1
 by_cases k10:kd=10
 ·subst k10;show Inv (R.ZP n p {R.sub n p with ZR:=true});exact Ir hI fun _=>hb
 by_cases k11:kd=11
 ·subst k11;show Inv (R.ZP n p {R.sub n p with ZR:=false});exact Ir hI fun _=>hb
 have k12:kd=12:=by omega
 subst k12
 have h5:=Pw (h4 rfl).1
 show Inv (R.ZP n p {R.sub n p with want:=q})
 exact Ir hI fun _=>⟨hb.1,hb.2.1,hb.2.2.1,hb.2.2.2.1,hb.2.2.2.2.1,hb.2.2.2.2.2.1,hb.2.2.2.2.2.2.1,h5.1,h5.2⟩
theorem Dg {R:Room} (hI:Inv R) (o:Op) (sv:Value):Inv (Wm R o sv).1.2:=by
 unfold Wm
 by_cases h:X5 R o=0
 ·rw [Z4 (by simpa using h)];exact tI hI (PT h) sv
 ·rw [ZQ h];exact hI
theorem Mt {R:Room} (hI:Inv R) (p x:Int):Inv (YS R p x).1.2:=by
 unfold YS
 split
 ·exact hI
 ·exact G0 hI _
def Src.bare (s:Src):Src:={s with sv:= .slice none 0 0}
def Room.bare (R:Room):Room:=⟨R.names,fun n=>(R.src n).bare,R.sub⟩
theorem EL (R:Room) (x:Int):∀ k n,Sa R.bare x k n=Sa R x k n
 | 0,_=>rfl
 | k+1,n=>by
  show (if (R.src n).there && decide (0≤index (R.src n).ss x) then ((n:Int),index (R.src n).ss x,true) else Sa R.bare x k (n+1))=_
  rw [EL R x k (n+1)]
  rfl
theorem LC (R:Room) (x:Int):of R.bare x=of R x:=EL R x 9 0
theorem yD (R:Room) (l:List Int):VA R.bare l=VA R l:=by
 funext i
 unfold VA
 rw [LC]
theorem Hm (R:Room) (o:Op):VY R.bare o=VY R o:=by
 unfold VY
 rw [yD]
 rfl
theorem yG (R:Room) (o:Op):X5 R.bare o=X5 R o:=by
 unfold X5
 rw [Hm]
 rfl
theorem QA (R:Room) (n:Nat) (x:Src):(R.Y6 n x).bare=R.bare.Y6 n x.bare:=by
 unfold Room.Y6 Room.bare
 congr 1
 funext m
 dsimp only
 split <;> rfl
theorem JG (n:Nat):∀ l R,Xp n l R.bare=((Xp n l R).1,(Xp n l R).2.bare)
 | [],R=>rfl
 | p :: l,R=>by
  have ih:=JG n l (R.ZP n p Ve)
  show ((⟨3,p,n,0,0⟩:YD) :: ⟨2,p,n,0,0⟩ :: (Xp n l (R.ZP n p Ve).bare).1,(Xp n l (R.ZP n p Ve).bare).2)=_
  rw [ih]
  rfl
theorem Nc (R:Room) (n:Nat):gone R.bare n=((gone R n).1,(gone R n).2.bare):=by
 unfold gone
 dsimp only
 rw [show Z5 R.bare n=Z5 R n from rfl,JG,QA]
 rfl
theorem JV (p:Nat) (R:Room):∀ k,ZM p R.bare k=((ZM p R k).1,(ZM p R k).2.bare)
 | 0=>rfl
 | k+1=>by
  have ih:=JV p R k
  unfold ZM
  dsimp only
  rw [ih]
  dsimp only
  show (if ((ZM p R k).2.sub k p).there=true then _ else _)=_
  split <;> rfl
theorem JX (R:Room) (p:Nat):∀ k,ZI R.bare p k=((ZI R p k).1,(ZI R p k).2.bare)
 | 0=>rfl
 | k+1=>by
  have ih:=JX R p k
  unfold ZI
  dsimp only
  rw [ih]
  dsimp only
  rw [Nc]
  show (if ((R.src k).there && decide ((R.src k).own=p))=true then _ else _)=_
  split <;> rfl
theorem xB (R:Room) (p:Nat):leave R.bare p=((leave R p).1,(leave R p).2.bare):=by
 unfold leave
 rw [JV,JX]
 rfl
theorem wF (R:Room) (o:Op):begin R.bare o=((begin R o).1,(begin R o).2.bare):=rfl
theorem EI (R:Room) (n:Nat) (on:Bool):mute R.bare n on=((mute R n on).1,(mute R n on).2.bare):=by
 have h:R.bare.Y6 n {R.bare.src n with ZG:=on}=(R.Y6 n {R.src n with ZG:=on}).bare:=by rw [QA];rfl
 unfold mute
 dsimp only
 rw [h]
 rfl
theorem yz (R:Room) (o:Op) (sv BF:Value):(turns R.bare o BF).1=(turns R o sv).1∧(turns R.bare o BF).2.bare=(turns R o sv).2.bare:=by
 have bb:∀ Q:Room,Q.bare.bare=Q.bare:=fun _=>rfl
 unfold turns
 dsimp only
 by_cases k2:o.kind=2
 ·rw [ZQ k2,ZQ k2];exact ⟨rfl,rfl⟩
 rw [Z4 k2,Z4 k2]
 by_cases k3:o.kind=3
 ·rw [ZQ k3,ZQ k3,xB];exact ⟨rfl,rfl⟩
 rw [Z4 k3,Z4 k3]
 by_cases k4:o.kind=4
 ·rw [ZQ k4,ZQ k4];exact ⟨rfl,by rw [QA,QA];rfl⟩
 rw [Z4 k4,Z4 k4]
 by_cases k5:o.kind=5
 ·rw [ZQ k5,ZQ k5,Nc];exact ⟨rfl,rfl⟩
 rw [Z4 k5,Z4 k5]
 by_cases k6:o.kind=6
 ·rw [ZQ k6,ZQ k6,wF];exact ⟨rfl,rfl⟩
 rw [Z4 k6,Z4 k6]
 by_cases k7:o.kind=7
 ·rw [ZQ k7,ZQ k7];exact ⟨rfl,rfl⟩
 rw [Z4 k7,Z4 k7]
 by_cases k8:o.kind=8
 ·rw [ZQ k8,ZQ k8,EI];exact ⟨rfl,rfl⟩
 rw [Z4 k8,Z4 k8]
 by_cases k9:o.kind=9
 ·rw [ZQ k9,ZQ k9,EI];exact ⟨rfl,rfl⟩
 rw [Z4 k9,Z4 k9]
 by_cases k10:o.kind=10
 ·rw [ZQ k10,ZQ k10];exact ⟨rfl,rfl⟩
 rw [Z4 k10,Z4 k10]
 by_cases k11:o.kind=11
 ·rw [ZQ k11,ZQ k11];exact ⟨rfl,rfl⟩
 rw [Z4 k11,Z4 k11]
 by_cases k12:o.kind=12
 ·rw [ZQ k12,ZQ k12];exact ⟨rfl,rfl⟩
 rw [Z4 k12,Z4 k12]
 exact ⟨rfl,rfl⟩
theorem zY (R:Room) (o:Op) (sv BF:Value):(Wm R.bare o BF).1.1=(Wm R o sv).1.1∧(Wm R.bare o BF).2=(Wm R o sv).2∧(Wm R.bare o BF).1.2.bare=(Wm R o sv).1.2.bare:=by
 unfold Wm
 rw [yG]
 by_cases h:X5 R o=0
 ·rw [Z4 (by simpa using h),Z4 (by simpa using h)]
  obtain ⟨h1,h2⟩:=yz R o sv BF
  exact ⟨h1,rfl,h2⟩
 ·rw [ZQ h,ZQ h]
  exact ⟨rfl,rfl,rfl⟩
end Go.Proofs.Rm
