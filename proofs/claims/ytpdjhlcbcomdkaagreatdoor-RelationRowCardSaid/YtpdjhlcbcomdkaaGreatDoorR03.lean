/- Part of a proof. -/
import Derived.Test.YtpdjhlcbcomdkaaGreatDoorR02
set_option linter.unusedVariables false
set_option linter.unusedSimpArgs false
set_option maxRecDepth 100000
set_option maxHeartbeats 16000000
open Go Go.Q
namespace Go.Proofs.NM
open Go Go.Lib
theorem Ex {l:List UInt8} (h:0<l.length):l≠[]:=List.length_pos_iff.1 h
def Dh:Nat→List UInt8→List (Nat × Nat)
 | 0,_=>[]
 | n+1,l=>if l=[] then [] else decodeL l :: Dh n (l.drop (decodeL l).2)
def rn (l:List UInt8):List (Nat × Nat):=Dh l.length l
theorem EJ:∀ (n m:Nat) (l:List UInt8),l.length≤n→l.length≤m→Dh n l=Dh m l
 | 0,m,l,hn,_=>by
  have:l=[]:=BN Zo;subst this;cases m <;> simp [Dh]
 | n+1,0,l,_,hm=>by
  have:l=[]:=BN Zo;subst this;simp [Dh]
 | n+1,m+1,l,hn,hm=>by
  by_cases WK:l=[]
  ·simp [Dh,WK]
  ·have hw:=decodeL_width l;have hl:0<l.length:=List.length_pos_iff.2 WK;simp only [Dh,Z4 WK];rw [EJ n m _ (by rw [Rg];omega) (by rw [Rg];omega)]
theorem Dj:rn []=[]:=rfl
theorem Rv (l:List UInt8) (WK:l≠[]):rn l=decodeL l :: rn (l.drop (decodeL l).2):=by
 have hw:=decodeL_width l;have hl:0<l.length:=List.length_pos_iff.2 WK;unfold rn;obtain ⟨n,hn⟩:∃ n,l.length=n+1:=⟨l.length-1,Zo⟩;rw [hn,Dh,Z4 WK,EJ n _ _ (by rw [Rg];omega) (Zw _)]
theorem Ml {motive:List UInt8→Prop} (nil:motive []) (step:∀ l,l≠[]→motive (l.drop (decodeL l).2)→motive l) (l:List UInt8):motive l:=by
 have key:∀ n l,l.length≤n→motive l:=by
  intro n
  induction n with
  | zero=>intro l hl;have:l=[]:=BN Zo;subst this;exact nil
  | succ n ih=>
   intro l hl;by_cases WK:l=[]
   ·subst WK;exact nil
   ·have hw:=decodeL_width l;have hl:0<l.length:=List.length_pos_iff.2 WK;exact step l WK (ih _ (by rw [Rg];omega))
 exact key _ l (Zw _)
def good (p:Nat × Nat):Bool:= !(p.1 == 65533 && p.2 == 1)
def Ig (r:Nat):Bool:=decide (33≤r) && (decide (r<127) || decide (159<r)) && !(r == 65533)
def may (l:List UInt8):Bool:=(rn l).all (fun p=>Ig p.1) && decide (1≤(rn l).length) && decide ((rn l).length≤8)
def runes (l:List UInt8):Int:=if (rn l).all good then ((rn l).length:Int) else -1
def low (b:UInt8):UInt8:=if 65≤b.toNat∧b.toNat≤90 then b+32 else b
def key (l:List UInt8):List UInt8:=if may l then l.map low else []
def OG (R:List (Nat × Nat)):Nat:=(R.map (·.2)).sum
def cutAt (l:List UInt8) (k:Nat):Nat:=OG ((rn l).take k)
theorem pI {p:Nat × Nat} (h:Ig p.1=true):good p=true:=by
 unfold Ig at h;unfold good;simp at h ⊢;exact Ws h.2
theorem Es {l:List UInt8} (h:may l=true):(rn l).all good=true:=by
 unfold may at h;simp only [UR] at h;exact List.all_eq_true.2 fun p hp=>pI (List.all_eq_true.1 h.1.1 p hp)
theorem tT:∀ l,validD l=(rn l).all good:=by
 refine Ml rfl ?_;intro l WK ih;rw [validD_step l WK,Rv l WK,List.all_cons,ih];unfold good;by_cases h:(decodeL l).1=65533∧(decodeL l).2=1
 ·simp [h]
 ·rw [Z4 h]
  have:((decodeL l).1 == 65533 && (decodeL l).2 == 1)=false:=by
   rw [KM];simpa using h
  simp [this]
theorem EX:∀ l,OG (rn l)=l.length:=by
 refine Ml rfl ?_;intro l WK ih;have h1:=decodeL_le l WK;rw [Rv l WK];unfold OG at *
 rw [List.map_cons,List.sum_cons,ih,Rg];omega
theorem Bb (R:List (Nat × Nat)) (k:Nat):OG (R.take k)≤OG R:=by
 unfold OG
 induction R generalizing k with
 | nil=>simp
 | cons a R ih=>cases k with
  | zero=>simp
  | succ k=>simp only [List.take_succ_cons,List.map_cons,List.sum_cons];have:=ih k;omega
theorem Ge (l:List UInt8) (k:Nat):cutAt l k≤l.length:=by
 rw [←EX l];exact Bb _ _
theorem vU (l:List UInt8):cutAt l 0=0:=rfl
theorem Lq:∀ l,(rn l).length≤l.length:=by
 refine Ml (by simp [Dj]) ?_;intro l WK ih;have h1:=decodeL_le l WK;have h2:=decodeL_width l;rw [Rv l WK];rw [Rg] at ih;simp;omega
theorem Di:∀ l,∀ k,rn (l.drop (cutAt l k))=(rn l).drop k:=by
 refine Ml (by intro k;simp [Dj]) ?_;intro l WK ih k;cases k with
 | zero=>simp [vU]
 | succ k=>
  have:=ih k;unfold cutAt at *
  rw [Rv l WK,List.take_succ_cons,List.drop_succ_cons];unfold OG at *
  rw [List.map_cons,List.sum_cons,←this,List.drop_drop]
theorem Gf (l:List UInt8) (k:Nat) (h:cutAt l k<l.length):cutAt l (k+1)=cutAt l k+(decodeL (l.drop (cutAt l k))).2:=by
 have WK:l.drop (cutAt l k)≠[]:=Ex (by rw [Rg];omega);have h1:=Di l k;rw [Rv _ WK] at h1;unfold cutAt at *
 have hk:(rn l)[k]?=some (decodeL (l.drop (OG ((rn l).take k)))):=by
  have:=congrArg (·[0]?) h1;simpa using this.symm
 rw [List.take_add_one,hk];unfold OG;simp
theorem rY (l:List UInt8) (k:Nat):cutAt l k=l.length↔(rn l).length≤k:=by
 constructor
 ·intro h;have h1:=Di l k;rw [h,List.drop_length,Dj] at h1;have:=congrArg List.length h1;rw [Rg] at this;simp at this;omega
 ·intro h;unfold cutAt;rw [FL h,EX]
theorem KQ (l:List UInt8) (k:Nat):cutAt l k<l.length↔k<(rn l).length:=by
 have h1:=rY l k;have h2:=Ge l k;omega
theorem nH (l:List UInt8) (k:Nat) (h:k≤(rn l).length):k≤cutAt l k:=by
 induction k with
 | zero=>exact Tk _
 | succ k ih=>
  have:=(KQ l k).2 Zo;have:=ih Zo;rw [Gf l k SZ];have:=decodeL_width (l.drop (cutAt l k));omega
theorem rn_at (l:List UInt8) (k:Nat) (h:k<(rn l).length):(rn l)[k]=decodeL (l.drop (cutAt l k)):=by
 have PV:=(KQ l k).2 h;have WK:l.drop (cutAt l k)≠[]:=Ex (by rw [Rg];omega);have h1:=Di l k;rw [Rv _ WK] at h1;have:=congrArg (·[0]?) h1;simp [Vb h] at this;exact this.symm
theorem vW {p:Nat × Nat} (h:good p=false):p=(65533,1):=by
 unfold good at h;simp at h;exact Prod.ext h.1 h.2
theorem vV (l:List UInt8):(decodeL l).2≤4:=by
 rw [decodeL_N];rcases decodeN_shape l.length (l.getD 0 0).toNat (l.getD 1 0).toNat (l.getD 2 0).toNat (l.getD 3 0).toNat with ⟨c,e⟩|⟨c1,c2,c3,cv,e⟩|⟨c1,c2,c3,c4,cv,cs,e⟩|⟨c1,c2,c3,c4,c5,cv,cw,e⟩|e
 all_goals (rw [e];dsimp only;omega)
theorem wU:∀ l,l.length≤4*(rn l).length:=by
 refine Ml (by simp [Dj]) ?_;intro l WK ih;have h1:=vV l;rw [Rg] at ih;rw [Rv l WK,List.length_cons];omega
theorem uT {l:List UInt8} (h:may l=true):l.length≤32:=by
 have:=wU l;unfold may at h;simp at h;omega
/-! Keys -/
def TS (r:Nat):Nat:=if 65≤r∧r≤90 then r+32 else r
theorem Ri (b:UInt8):(low b).toNat=TS b.toNat:=by
 unfold low TS;split
 ·rename_i h
  rw [UInt8.toNat_add];have:(32:UInt8).toNat=32:=rfl;rw [this];omega
 ·rfl
theorem KZ (l:List UInt8) (i:Nat):((l.map low).getD i 0).toNat=TS (l.getD i 0).toNat:=by
 rw [SC,SC,List.getElem?_map];cases l[i]? with
 | none=>rfl
 | some b=>exact Ri b
theorem zG (n b0 b1 b2 b3:Nat):decodeN n (TS b0) (TS b1) (TS b2) (TS b3)=(TS (decodeN n b0 b1 b2 b3).1,(decodeN n b0 b1 b2 b3).2):=by
 have hc:∀ b,128≤b→TS b=b:=by intro b h;unfold TS;rw [Z4 Zo]
 have hl:∀ b,b<128→TS b<128:=by intro b h;unfold TS;split <;> omega
 have h64:∀ b,TS b / 64=2↔b / 64=2:=by
  intro b;unfold TS;split <;> omega
 by_cases h0:b0<128
 ·unfold decodeN;rw [ZR (hl _ h0),ZR h0]
 ·have e0:=hc b0 Zo;rw [e0];have h8:∀ b,b / 64=2→TS b=b:=fun b h=>hc b Zo
  by_cases k1:b1 / 64=2
  ·rw [h8 b1 k1];by_cases k2:b2 / 64=2
   ·rw [h8 b2 k2];by_cases k3:b3 / 64=2
    ·rw [h8 b3 k3];exact jq
    ·have k3':¬TS b3 / 64=2:=fun h=>k3 ((h64 b3).1 h)
     have e3:decodeN n b0 b1 b2 (TS b3)=decodeN n b0 b1 b2 b3:=by
      unfold decodeN;rw [Z4 h0,Z4 h0];simp only [k3,k3',and_false,if_false]
     rw [e3];exact jq
   ·have k2':¬TS b2 / 64=2:=fun h=>k2 ((h64 b2).1 h)
    have e3:decodeN n b0 b1 (TS b2) (TS b3)=decodeN n b0 b1 b2 b3:=by
     unfold decodeN;rw [Z4 h0,Z4 h0];simp only [k2,k2',and_false,false_and,if_false]
    rw [e3];exact jq
  ·have k1':¬TS b1 / 64=2:=fun h=>k1 ((h64 b1).1 h)
   have e3:decodeN n b0 (TS b1) (TS b2) (TS b3)=decodeN n b0 b1 b2 b3:=by
    unfold decodeN;rw [Z4 h0,Z4 h0];simp only [k1,k1',and_false,false_and,if_false]
   rw [e3];exact jq
theorem vX (l:List UInt8):decodeL (l.map low)=(TS (decodeL l).1,(decodeL l).2):=by
 rw [decodeL_N,decodeL_N,TB,KZ,KZ,KZ,KZ,zG]
theorem eA:∀ l,rn (l.map low)=(rn l).map fun p=>(TS p.1,p.2):=by
 refine Ml rfl ?_;intro l WK ih;rw [Rv _ (by simpa using WK),Rv l WK,List.map_cons,vX];dsimp only;rw [←List.map_drop,ih]
theorem kJ (r:Nat):Ig (TS r)=Ig r:=by
 unfold Ig TS;split
 ·rename_i h
  rw [Bool.eq_iff_iff];simp;omega
 ·rfl
theorem uU (l:List UInt8):may (l.map low)=may l:=by
 unfold may;rw [eA,TB,List.all_map]
 congr 2
 apply List.all_congr rfl;intro p;exact kJ _
theorem kG (b:UInt8):low (low b)=low b:=by
 apply UInt8.toNat_inj.1;rw [Ri,Ri];unfold TS;repeat' split
 all_goals omega
theorem px (l:List UInt8) (h:may l=true):(key l).length=l.length∧may (key l)=true∧key (key l)=key l:=by
 have e:key l=l.map low:=by unfold key;rw [ZR h]
 rw [e];refine ⟨TB _,by rw [uU,h],?_⟩;unfold key;rw [ZR (by rw [uU,h]),List.map_map]
 congr 1
 funext b;exact kG b
def NY (r:Int):Int:=if 65≤r∧r≤90 then r-65+97 else r
theorem Fa (l:List UInt8) (WK:l≠[]) (h:(decodeL l).1<128):∃ b t,l=b :: t∧b.toNat<128∧decodeL l=(b.toNat,1):=by
 cases l with
 | nil=>exact absurd rfl WK
 | cons b t=>
  refine ⟨b,t,rfl,?_⟩;have e0:(b :: t).getD 0 0=b:=rfl;rw [decodeL_N,e0] at h ⊢;rcases decodeN_shape (b :: t).length b.toNat ((b :: t).getD 1 0).toNat ((b :: t).getD 2 0).toNat ((b :: t).getD 3 0).toNat with ⟨c,e⟩|⟨c1,c2,c3,cv,e⟩|⟨c1,c2,c3,c4,cv,cs,e⟩|⟨c1,c2,c3,c4,c5,cv,cw,e⟩|e
  ·exact ⟨c,e⟩
  all_goals (rw [e] at h;dsimp only at h;omega)
theorem Iy (r:Int) (h:128≤r):∀ b∈encodeRune r,low b=b:=by
 intro b hb
 have:128≤b.toNat:=by
  unfold encodeRune at hb;obtain ⟨z,hz,rfl⟩:=vO.1 hb;have h1:=encodeRuneZ_byte r z hz
  have h2:128≤z:=by
   unfold encodeRuneZ at hz
   repeat' split at hz
   all_goals simp at hz
   all_goals omega
  obtain ⟨n,rfl⟩:=Rf h1.1;simp;omega
 unfold low;rw [Z4 Zo]
theorem pC:∀ l,validD l=true→mapD NY l=l.map low:=by
 refine Ml (fun _=>rfl) ?_;intro l WK ih hv;rw [validD_step l WK] at hv;split at hv
 ·cases hv
 rename_i hg
 have ih:=ih hv;by_cases h:(decodeL l).1<128
 ·obtain ⟨b,t,rfl,hb,hd⟩:=Fa l WK h;rw [mapD_step _ _ WK,ih,hd];dsimp only [List.drop_succ_cons,List.drop_zero,List.map_cons];have h0:0≤NY (b.toNat:Int):=by unfold NY;split <;> omega
  rw [ZR h0]
  have:encodeRune (NY (b.toNat:Int))=[low b]:=by
   have e2:NY (b.toNat:Int)=((low b).toNat:Int):=by
    rw [Ri];unfold NY TS;repeat' split
    all_goals omega
   have h3:(low b).toNat<128:=by rw [Ri];unfold TS;split <;> omega
   rw [e2];unfold encodeRune;rw [encodeRuneZ_one Zo Zo];simp
  rw [this];rfl
 ·have hf:NY ((decodeL l).1:Int)=(decodeL l).1:=by unfold NY;rw [Z4 Zo]
  rw [mapD_same NY l WK hf hg,ih,←encode_decode l WK hg]
  conv=>rhs;rw [←List.take_append_drop (decodeL l).2 l,NR,←encode_decode l WK hg]
  congr 1
  have:=Iy ((decodeL l).1:Int) Zo;exact (List.map_congr_left this).symm▸(List.map_id _).symm
/-! One rune -/
end Go.Proofs.NM
namespace Go.Proofs.Rm
open Go.Proofs.NM (may key)
structure Op where
 kind:Int
 peer:Int
 source:Int
 ZH:Int
 name:List UInt8
 ZK:List Int
structure YB where
 kind:Int
 peer:Int
 source:Int
 ZH:Int
 YE:Int
deriving DecidableEq
structure Src where
 there:Bool
 num:Int
 own:Int
 sv:Value
 ss:List Int
 ZE:Bool
structure Sub where
 there:Bool
 ZQ:Bool
 want:Int
structure Room where
 names:Nat→List UInt8
 src:Nat→Src
 sub:Nat→Nat→Sub
def Ud:Src:=⟨false,0,0,.slice none 0 0,[],false⟩
def U7:Sub:=⟨false,false,0⟩
def empty:Room:=⟨fun _=>[],fun _=>Ud,fun _ _=>U7⟩
def Room.setName (R:Room) (p:Nat) (s:List UInt8):Room:={R with names:=fun q=>if q=p then s else R.names q}
def Room.Y5 (R:Room) (n:Nat) (s:Src):Room:={R with src:=fun q=>if q=n then s else R.src q}
def Room.ZP (R:Room) (n p:Nat) (x:Sub):Room:={R with sub:=fun m q=>if m=n∧q=p then x else R.sub m q}
def VE (n below:Int):Bool:=decide (1≤n) && decide (n<below)
def Y_ (R:Room) (p:Int):Bool:=VE p 9 && !(R.names p.toNat).isEmpty
def index (l:List Int) (x:Int):Int:=match l.findIdx? (fun y=>y == x) with|some i=>i|none=> -1
def RZ (R:Room) (x:Int):Nat→Nat→Int × Int × Bool
 | 0,_=>(0,0,false)
 | k+1,n=>if (R.src n).there && decide (0≤index (R.src n).ss x) then ((n:Int),index (R.src n).ss x,true) else RZ R x k (n+1)
def of (R:Room) (x:Int):Int × Int × Bool:=RZ R x 9 0
def Zv (R:Room) (p n:Int):Bool:=VE p 9 && VE n 9 && (R.sub n.toNat p.toNat).there
def Z0 (R:Room) (n:Int):List Nat:=(List.range 9).filter fun p=>Zv R p n
def ZH (R:Room) (o:Op):Int:=if o.ZH<0∨((R.src o.source.toNat).ss.length:Int)≤o.ZH then 5 else 0
def heard (R:Room) (o:Op):Int:=
 let x:=R.sub o.source.toNat o.peer.toNat
 if !x.there then 8
 else if o.kind=10∧x.ZQ=true then 9
 else if o.kind=11∧x.ZQ=false then 11
 else if o.kind≠12 then 0
 else if ZH R o≠0 then ZH R o
 else if x.want=o.ZH then 9 else 0
def about (R:Room) (o:Op):Int:=
 let s:=R.src o.source.toNat
 if o.kind=5∨o.kind=8∨o.kind=9 then
  (if s.own≠o.peer then 10 else if o.kind=8∧s.ZE=true then 9 else if o.kind=9∧s.ZE=false then 11 else 0)
 else if o.kind=6 then
  (if s.own=o.peer then 10 else if (R.sub o.source.toNat o.peer.toNat).there then 9 else ZH R o)
 else heard R o
def Vv (R:Room) (l:List Int) (i:Nat):Bool:=(of R (l.getD i 0)).2.2 || (l.take i).contains (l.getD i 0)
def VR (R:Room) (o:Op):Int:=
 if o.ZK.length<1∨3<o.ZK.length then 5
 else if o.ZK.any (fun s=>decide (s<2) || decide (3221225472≤s)) then 5
 else if (R.src o.source.toNat).there then 9
 else if (List.range o.ZK.length).any (Vv R o.ZK) then 9 else 0
def sameKey (R:Room) (o:Op) (n:Nat):Bool:= !(R.names n).isEmpty && decide (key (R.names n)=key o.name)
def MA (R:Room) (o:Op):Int:=
 if Y_ R o.peer then 9
 else if !may o.name then 12
 else if (List.range 9).any (sameKey R o) then 9 else 0
def X4 (R:Room) (o:Op):Int:=
 if o.kind<2∨12<o.kind then 4
 else if !VE o.peer 9 then 5
 else if o.kind=2 then MA R o
 else if !Y_ R o.peer then 8
 else if o.kind=3 then 0
 else if !VE o.source 9 then 5
 else if o.kind=4 then VR R o
 else if !(R.src o.source.toNat).there then 8
 else about R o
def asks (R:Room) (p n:Nat):YB:=⟨9,(R.src n).own,n,0,(R.src n).ss.getD (R.sub n p).want.toNat 0⟩
def waits (R:Room) (p n:Nat):List YB:=if (R.sub n p).ZQ || (R.src n).ZE then [] else [asks R p n]
def Xm (n:Nat):List Nat→Room→List YB × Room
 | [],R=>([],R)
 | p :: l,R=>let x:=Xm n l (R.ZP n p U7);(⟨3,p,n,0,0⟩ :: ⟨2,p,n,0,0⟩ :: x.1,x.2)
def gone (R:Room) (n:Nat):List YB × Room:=
 let x:=Xm n (Z0 R n) R
 (x.1,x.2.Y5 n Ud)
def ZM (p:Nat) (R:Room):Nat→List YB × Room
 | 0=>([],R)
 | k+1=>let x:=ZM p R k;if (x.2.sub k p).there then (x.1++[⟨2,p,k,0,0⟩],x.2.ZP k p U7) else x
def ZI (R0:Room) (p:Nat):Nat→List YB × Room
 | 0=>([],R0)
 | k+1=>let x:=ZI R0 p k;if (R0.src k).there && decide ((R0.src k).own=p) then (x.1++(gone x.2 k).1,(gone x.2 k).2) else x
def leave (R:Room) (p:Nat):List YB × Room:=
 ((ZM p R 9).1++(ZI (ZM p R 9).2 p 9).1,(ZI (ZM p R 9).2 p 9).2.setName p [])
def begin (R:Room) (o:Op):List YB × Room:=
 let n:=o.source.toNat;let p:=o.peer.toNat
 let R1:=R.ZP n p ⟨true,false,o.ZH⟩
 (⟨1,o.peer,o.source,o.ZH,0⟩ :: (if (R.src n).ZE then [⟨6,o.peer,o.source,0,0⟩] else [asks R1 p n]),R1)
def Y0 (R:Room) (n:Nat) (on:Bool) (p:Nat):List YB:=
 if on then [⟨6,p,n,0,0⟩] else ⟨7,p,n,0,0⟩ :: waits R p n
def mute (R:Room) (n:Nat) (on:Bool):List YB × Room:=
 let R1:=R.Y5 n {R.src n with ZE:=on}
 ((Z0 R1 n).flatMap (Y0 R1 n on),R1)
def turns (R:Room) (o:Op) (sv:Value):List YB × Room:=
 let n:=o.source.toNat;let p:=o.peer.toNat;let x:=R.sub n p
 if o.kind=2 then ([],R.setName p o.name)
 else if o.kind=3 then leave R p
 else if o.kind=4 then ([],R.Y5 n ⟨true,o.source,o.peer,sv,o.ZK,false⟩)
 else if o.kind=5 then gone R n
 else if o.kind=6 then begin R o
 else if o.kind=7 then ([⟨2,o.peer,o.source,0,0⟩],R.ZP n p U7)
 else if o.kind=8 then mute R n true
 else if o.kind=9 then mute R n false
 else if o.kind=10 then ([⟨4,o.peer,o.source,0,0⟩],R.ZP n p {x with ZQ:=true})
 else if o.kind=11 then let R1:=R.ZP n p {x with ZQ:=false};(⟨5,o.peer,o.source,0,0⟩ :: waits R1 p n,R1)
 else if o.kind=12 then let R1:=R.ZP n p {x with want:=o.ZH};(⟨8,o.peer,o.source,o.ZH,0⟩ :: waits R1 p n,R1)
 else ([],R)
def Wm (R:Room) (o:Op) (sv:Value):(List YB × Room) × Int:=if X4 R o≠0 then (([],R),X4 R o) else (turns R o sv,0)
def YS (R:Room) (peer YE:Int):(List YB × Room) × Int:=
 if !(of R YE).2.2 || !Y_ R peer || decide ((R.src (of R YE).1.toNat).own≠peer) then (([],R),8) else (gone R (of R YE).1.toNat,0)
structure Inv (R:Room):Prop where
 P6:R.names 0=[]∧(R.src 0).there=false
 Y9:∀ n p,(R.sub n p).there=true→1≤n∧n<9∧1≤p∧p<9∧(R.src n).there=true∧R.names p≠[]∧(R.src n).own≠p∧0≤(R.sub n p).want∧(R.sub n p).want<(R.src n).ss.length
 YU:∀ n,(R.src n).there=true→1≤n∧n<9∧(R.src n).num=n∧Y_ R (R.src n).own=true∧1≤(R.src n).ss.length∧(R.src n).ss.length≤3∧(R.src n).ss.Nodup∧∀ x∈(R.src n).ss,2≤x∧x<3221225472
 apart:∀ n m x,(R.src n).there=true→(R.src m).there=true→x∈(R.src n).ss→x∈(R.src m).ss→n=m
 nameAt:∀ p,R.names p≠[]→p<9∧may (R.names p)=true
 keys:∀ p q,R.names p≠[]→key (R.names p)=key (R.names q)→p=q
theorem VI (R:Room) (n p:Nat) (x:Sub) (m q:Nat):(R.ZP n p x).sub m q=if m=n∧q=p then x else R.sub m q:=rfl
theorem Wy (R:Room) (n:Nat) (x:Src) (m:Nat):(R.Y5 n x).src m=if m=n then x else R.src m:=rfl
theorem X7 (R:Room) (p:Nat) (s:List UInt8) (q:Nat):(R.setName p s).names q=if q=p then s else R.names q:=rfl
theorem K4 (n:Nat):∀ l R,(Xm n l R).2.names=R.names
 | [],_=>rfl
 | p :: l,R=>K4 n l (R.ZP n p U7)
theorem L5 (n:Nat):∀ l R,(Xm n l R).2.src=R.src
 | [],_=>rfl
 | p :: l,R=>L5 n l (R.ZP n p U7)
theorem Gq (n:Nat):∀ l R m q,(Xm n l R).2.sub m q=if m=n∧q∈l then U7 else R.sub m q
 | [],R,m,q=>by simp [Xm]
 | p :: l,R,m,q=>by
  show (Xm n l (R.ZP n p U7)).2.sub m q=_;rw [Gq n l,VI];by_cases h1:m=n∧q∈l
  ·rw [ZR h1,ZR ⟨h1.1,List.mem_cons_of_mem _ h1.2⟩]
  ·rw [Z4 h1];by_cases h2:m=n∧q=p
   ·rw [ZR h2,ZR ⟨h2.1,by rw [h2.2];exact List.mem_cons_self⟩]
   ·rw [Z4 h2,Z4];rintro ⟨a,b⟩;rcases KN.1 b with b|b
    ·exact h2 ⟨a,b⟩
    ·exact h1 ⟨a,b⟩
theorem Cs {n:Nat} {k:Int}:VE n k=true↔1≤n∧(n:Int)<k:=by unfold VE;simp;omega
theorem UI {R:Room} {p n:Nat}:Zv R p n=true↔1≤p∧p<9∧1≤n∧n<9∧(R.sub n p).there=true:=by
 unfold Zv;rw [UR,UR,Cs,Cs,Wz,Wz];exact ⟨fun ⟨⟨⟨a,b⟩,c,d⟩,e⟩=>⟨a,Zo,c,Zo,e⟩,fun ⟨a,b,c,d,e⟩=>⟨⟨⟨a,Zo⟩,c,Zo⟩,e⟩⟩
theorem Pe {R:Room} {n p:Nat}:p∈Z0 R n↔1≤p∧p<9∧1≤n∧n<9∧(R.sub n p).there=true:=by
 unfold Z0;rw [Z1g,List.mem_range,UI];exact ⟨fun ⟨_,h⟩=>h,fun h=>⟨h.2.1,h⟩⟩
theorem Inv.Pe {R:Room} (hI:Inv R) {n p:Nat}:p∈Z0 R n↔(R.sub n p).there=true:=by
 rw [Rm.Pe];constructor
 ·exact fun h=>h.2.2.2.2
 ·intro h;have:=hI.Y9 n p h;exact ⟨this.2.2.1,this.2.2.2.1,this.1,this.2.1,h⟩
theorem Gs (R:Room) (n:Nat):(gone R n).2.names=R.names:=K4 n _ _
theorem O6 (R:Room) (n m:Nat):(gone R n).2.src m=if m=n then Ud else R.src m:=by
 show (((Xm n (Z0 R n) R).2).Y5 n Ud).src m=_;rw [Wy,L5]
theorem zM (R:Room) (n m q:Nat):(gone R n).2.sub m q=if m=n∧q∈Z0 R n then U7 else R.sub m q:=Gq n _ _ m q
theorem Gt {R:Room} (hI:Inv R) (n m q:Nat):((gone R n).2.sub m q).there=true↔m≠n∧(R.sub m q).there=true:=by
 rw [zM];by_cases h:m=n
 ·subst h;by_cases h2:(R.sub m q).there=true
  ·rw [ZR ⟨rfl,hI.Pe.2 h2⟩];simp [U7]
  ·rw [Z4 (fun h=>h2 (hI.Pe.1 h.2))];simp [h2]
 ·rw [Z4 (fun e=>h e.1)];simp [h]
theorem jO (R:Room) {n m:Nat} (h:m≠n) (q:Nat):(gone R n).2.sub m q=R.sub m q:=by rw [zM,Z4 (fun e=>h e.1)]
theorem La {R R':Room} (h:R'.names=R.names) (p:Int):Y_ R' p=Y_ R p:=by unfold Y_;rw [h]
theorem GP {R:Room} {p:Nat}:Y_ R p=true↔1≤p∧p<9∧R.names p≠[]:=by
 unfold Y_;rw [UR,Cs,Wz];have:(!(R.names p).isEmpty)=true↔R.names p≠[]:=by simp
 rw [this];exact ⟨fun ⟨⟨a,b⟩,c⟩=>⟨a,Zo,c⟩,fun ⟨a,b,c⟩=>⟨⟨a,Zo⟩,c⟩⟩
theorem GJ {R:Room} (hI:Inv R) (n:Nat):Inv (gone R n).2:=by
 have hn:=Gs R n;refine ⟨?_,?_,?_,?_,?_,?_⟩
 ·rw [hn,O6];refine ⟨hI.P6.1,?_⟩;split
  ·rfl
  ·exact hI.P6.2
 ·intro m q h;obtain ⟨h1,h2⟩:=(Gt hI n m q).1 h;have:=hI.Y9 m q h2;rw [jO R h1,O6,Z4 h1,hn];exact this
 ·intro m h;rw [O6] at h ⊢;by_cases h1:m=n
  ·rw [ZR h1] at h;cases h
  ·rw [Z4 h1] at h ⊢;rw [La hn];exact hI.YU m h
 ·intro m k x h1 h2 h3 h4;rw [O6] at h1 h2 h3 h4;by_cases hm:m=n
  ·rw [ZR hm] at h1;cases h1
  by_cases hk:k=n
  ·rw [ZR hk] at h2;cases h2
  rw [Z4 hm] at h1 h3;rw [Z4 hk] at h2 h4;exact hI.apart m k x h1 h2 h3 h4
 ·rw [hn];exact hI.nameAt
 ·rw [hn];exact hI.keys
theorem uQ {R:Room} (hI:Inv R) (n p:Nat):Inv (R.ZP n p U7):=by
 refine ⟨hI.P6,?_,hI.YU,hI.apart,hI.nameAt,hI.keys⟩;intro m q h;rw [VI] at h ⊢;by_cases h1:m=n∧q=p
 ·rw [ZR h1] at h;cases h
 ·rw [Z4 h1] at h ⊢;exact hI.Y9 m q h
theorem QU {R:Room} (hI:Inv R) (p:Nat):∀ k,Inv (ZM p R k).2
 | 0=>hI
 | k+1=>by
  unfold ZM;dsimp only;split
  ·exact uQ (QU hI p k) k p
  ·exact QU hI p k
theorem Ol {R:Room} (hI:Inv R) (p:Nat):∀ k,Inv (ZI R p k).2
 | 0=>hI
 | k+1=>by
  unfold ZI;dsimp only;split
  ·exact GJ (Ol hI p k) k
  ·exact Ol hI p k
theorem Rs (R:Room) (p:Nat):∀ k,(ZM p R k).2.names=R.names∧(ZM p R k).2.src=R.src
 | 0=>⟨rfl,rfl⟩
 | k+1=>by
  unfold ZM;dsimp only;split
  ·exact Rs R p k
  ·exact Rs R p k
theorem Lb (R:Room) (p:Nat):∀ k m q,((ZM p R k).2.sub m q).there=((R.sub m q).there && !(decide (q=p) && decide (m<k)))
 | 0,m,q=>by simp [ZM]
 | k+1,m,q=>by
  have ih:=Lb R p k;unfold ZM;dsimp only;by_cases ht:((ZM p R k).2.sub k p).there=true
  ·rw [ZR ht];dsimp only;rw [VI];by_cases h:m=k∧q=p
   ·rw [ZR h,h.1,h.2];simp [U7]
   ·rw [Z4 h,ih];by_cases hq:q=p
    ·have:m≠k:=fun e=>h ⟨e,hq⟩
     simp [hq];by_cases hm:m<k
     ·simp [hm,Nat.lt_succ_of_lt hm]
     ·have:¬m<k+1:=by omega
      simp [hm,this]
    ·simp [hq]
  ·rw [Z4 ht,ih];by_cases hq:q=p
   ·by_cases hm:m=k
    ·subst hm;subst hq;rw [ih] at ht;simp at ht;simp [ht]
    ·simp [hq];by_cases hm2:m<k
     ·simp [hm2,Nat.lt_succ_of_lt hm2]
     ·have:¬m<k+1:=by omega
      simp [hm2,this]
   ·simp [hq]
theorem Ov (R:Room) (p:Nat):∀ k,(ZI R p k).2.names=R.names
 | 0=>rfl
 | k+1=>by
  unfold ZI;dsimp only;split
  ·dsimp only;rw [Gs];exact Ov R p k
  ·exact Ov R p k
theorem Ow (R:Room) (p:Nat):∀ k m,(ZI R p k).2.src m=if m<k∧(R.src m).there=true∧(R.src m).own=p then Ud else R.src m
 | 0,m=>by simp [ZI]
 | k+1,m=>by
  have ih:=Ow R p k m;unfold ZI;dsimp only;by_cases hc:((R.src k).there && decide ((R.src k).own=p))=true
  ·rw [ZR hc];dsimp only;rw [O6];rw [UR,Pz] at hc;by_cases hm:m=k
   ·subst hm;rw [ZR rfl,ZR ⟨Zo,hc.1,hc.2⟩]
   ·rw [Z4 hm,ih];have:m<k+1↔m<k:=by omega
    simp only [this]
  ·rw [Z4 hc,ih];rw [UR,Pz] at hc;by_cases hm:m=k
   ·subst hm;rw [Z4 Zo,Z4 (fun h=>hc ⟨h.2.1,h.2.2⟩)]
   ·have:m<k+1↔m<k:=by omega
    simp only [this]
theorem Lc {R:Room} (hI:Inv R) (p:Nat):∀ k m q,((ZI R p k).2.sub m q).there=true↔(R.sub m q).there=true∧¬(m<k∧(R.src m).there=true∧(R.src m).own=p)
 | 0,m,q=>by simp [ZI]
 | k+1,m,q=>by
  have ih:=Lc hI p k m q;unfold ZI;dsimp only;by_cases hc:((R.src k).there && decide ((R.src k).own=p))=true
  ·rw [ZR hc];dsimp only;rw [Gt (Ol hI p k),ih];rw [UR,Pz] at hc;by_cases hm:m=k
   ·subst hm;constructor
    ·rintro ⟨h,_⟩;exact absurd rfl h
    ·rintro ⟨_,h⟩;exact absurd ⟨Zo,hc⟩ h
   ·have:m<k+1↔m<k:=by omega
    rw [this];exact ⟨fun h=>h.2,fun h=>⟨hm,h⟩⟩
  ·rw [Z4 hc,ih];rw [UR,Pz] at hc;by_cases hm:m=k
   ·subst hm;constructor
    ·rintro ⟨h,_⟩;exact ⟨h,fun e=>hc e.2⟩
    ·rintro ⟨h,_⟩;exact ⟨h,fun e=>by omega⟩
   ·have:m<k+1↔m<k:=by omega
    rw [this]
theorem GQ {l:List UInt8} (h:may l=true):key l≠[]:=by
 intro e;have h1:=(NM.px l h).1;rw [e] at h1;have:l=[]:=BN h1.symm;subst this;cases h
theorem wM {R:Room} (hI:Inv R) (p:Nat) (hs:∀ m,(R.src m).there=true→(R.src m).own≠p) (hu:∀ m,(R.sub m p).there=false):Inv (R.setName p []):=by
 refine ⟨⟨?_,hI.P6.2⟩,?_,?_,hI.apart,?_,?_⟩
 ·rw [X7];split
  ·rfl
  ·exact hI.P6.1
 ·intro m q h;have h0:=hI.Y9 m q h
  have hq:q≠p:=by
   rintro rfl;have h2:=hu m;have h3:(R.sub m q).there=true:=h;rw [h2] at h3;cases h3
  rw [X7,Z4 hq];exact h0
 ·intro m h;obtain ⟨h1,h2,h3,h4,h5⟩:=hI.YU m h;refine ⟨h1,h2,h3,?_,h5⟩;have ho:=hs m h;show Y_ (R.setName p []) (R.src m).own=true;unfold Y_ at h4 ⊢;rw [UR] at h4 ⊢;refine ⟨h4.1,?_⟩;rw [X7,Z4]
  ·exact h4.2
  ·intro e;have:=h4.1;unfold VE at this;simp at this;omega
 ·intro q h;rw [X7] at h ⊢;by_cases hq:q=p
  ·rw [ZR hq] at h;exact absurd rfl h
  ·rw [Z4 hq] at h ⊢;exact hI.nameAt q h
 ·intro q r h e;rw [X7] at h e;by_cases hq:q=p
  ·rw [ZR hq] at h;exact absurd rfl h
  rw [Z4 hq] at h e;rw [X7] at e;by_cases hr:r=p
  ·rw [ZR hr] at e;exact absurd e (GQ (hI.nameAt q h).2)
  ·rw [Z4 hr] at e;exact hI.keys q r h e
theorem sN {R:Room} (hI:Inv R) (p:Nat):Inv (leave R p).2:=by
 have h1:=QU hI p 9;refine wM (Ol h1 p 9) p ?_ ?_
 ·intro m h;rw [Ow] at h ⊢;by_cases hc:m<9∧((ZM p R 9).2.src m).there=true∧((ZM p R 9).2.src m).own=p
  ·rw [ZR hc] at h;cases h
  ·rw [Z4 hc] at h ⊢;intro e;exact hc ⟨(h1.YU m h).2.1,h,e⟩
 ·intro m;rw [KM];intro h;have h2:=((Lc h1 p 9 m p).1 h).1;have h3:=h1.Y9 m p h2;rw [Lb] at h2;simp at h2;omega
end Go.Proofs.Rm
namespace Go.Proofs.Rm
open Go.Proofs.NM (may key)
structure Ok (R:Room) (o:Op):Prop where
 kind:2≤o.kind∧o.kind≤12
 peer:1≤o.peer∧o.peer<9
 join:o.kind=2→MA R o=0
 there:o.kind≠2→Y_ R o.peer=true
 src:4≤o.kind→1≤o.source∧o.source<9
 Dc:o.kind=4→VR R o=0
 is:5≤o.kind→(R.src o.source.toNat).there=true
 abt:5≤o.kind→about R o=0
theorem XS (n k:Int):VE n k=true↔1≤n∧n<k:=by unfold VE;simp
theorem Pw {R:Room} {o:Op} (h:X4 R o=0):Ok R o:=by
 unfold X4 at h;by_cases h1:o.kind<2∨12<o.kind
 ·rw [ZR h1] at h;exact absurd h Zd
 rw [Z4 h1] at h;by_cases h2:VE o.peer 9=true
 rotate_left
 ·simp [h2] at h
 simp only [h2,Bool.not_true,Bool.false_eq_true,if_false] at h;have hp:=(XS _ _).1 h2;by_cases h3:o.kind=2
 ·rw [ZR h3] at h;exact ⟨Zo,hp,fun _=>h,fun e=>absurd h3 e,Zo,Zo,Zo,Zo⟩
 rw [Z4 h3] at h;by_cases h4:Y_ R o.peer=true
 rotate_left
 ·simp [h4] at h
 simp only [h4,Bool.not_true,Bool.false_eq_true,if_false] at h;by_cases h5:o.kind=3
 ·exact ⟨Zo,hp,Zo,fun _=>h4,Zo,Zo,Zo,Zo⟩
 rw [Z4 h5] at h;by_cases h6:VE o.source 9=true
 rotate_left
 ·simp [h6] at h
 simp only [h6,Bool.not_true,Bool.false_eq_true,if_false] at h;have hs:=(XS _ _).1 h6;by_cases h7:o.kind=4
 ·rw [ZR h7] at h;exact ⟨Zo,hp,Zo,fun _=>h4,fun _=>hs,fun _=>h,Zo,Zo⟩
 rw [Z4 h7] at h;by_cases h8:(R.src o.source.toNat).there=true
 rotate_left
 ·simp [h8] at h
 simp only [h8,Bool.not_true,Bool.false_eq_true,if_false] at h;exact ⟨Zo,hp,Zo,fun _=>h4,fun _=>hs,Zo,fun _=>h8,fun _=>h⟩
theorem Pd {R:Room} {o:Op} (h:ZH R o=0):0≤o.ZH∧o.ZH<(R.src o.source.toNat).ss.length:=by
 unfold ZH at h;by_cases h1:o.ZH<0∨((R.src o.source.toNat).ss.length:Int)≤o.ZH
 ·rw [ZR h1] at h;exact absurd h Zd
 ·omega
theorem OT {R:Room} {o:Op} (h:about R o=0) (hk:o.kind=6):(R.src o.source.toNat).own≠o.peer∧(R.sub o.source.toNat o.peer.toNat).there=false∧ZH R o=0:=by
 unfold about at h;dsimp only at h;rw [Z4 Zo,ZR hk] at h;by_cases h1:(R.src o.source.toNat).own=o.peer
 ·rw [ZR h1] at h;exact absurd h Zd
 rw [Z4 h1] at h;cases ht:(R.sub o.source.toNat o.peer.toNat).there
 ·rw [ht] at h;exact ⟨h1,rfl,h⟩
 ·rw [ht] at h;simp at h
theorem TD {R:Room} {o:Op} (h:about R o=0) (hk:o.kind=7∨10≤o.kind) :
  (R.sub o.source.toNat o.peer.toNat).there=true∧(o.kind=10→(R.sub o.source.toNat o.peer.toNat).ZQ=false)∧(o.kind=11→(R.sub o.source.toNat o.peer.toNat).ZQ=true)∧(o.kind=12→ZH R o=0∧(R.sub o.source.toNat o.peer.toNat).want≠o.ZH):=by
 unfold about at h;dsimp only at h;rw [Z4 Zo,Z4 Zo] at h;unfold heard at h;dsimp only at h;cases ht:(R.sub o.source.toNat o.peer.toNat).there
 ·rw [ht] at h;simp at h
 rw [ht] at h;simp only [Bool.not_true,Bool.false_eq_true,if_false] at h;refine ⟨rfl,?_,?_,?_⟩
 ·intro Bf;cases hm:(R.sub o.source.toNat o.peer.toNat).ZQ
  ·rfl
  ·rw [ZR ⟨Bf,hm⟩] at h;exact absurd h Zd
 ·intro h11;rw [Z4 Zo] at h;cases hm:(R.sub o.source.toNat o.peer.toNat).ZQ
  ·rw [ZR ⟨h11,hm⟩] at h;exact absurd h Zd
  ·rfl
 ·intro h12;rw [Z4 Zo,Z4 Zo,Z4 Zo] at h;by_cases hl:ZH R o=0
  ·rw [Z4 Zo] at h;refine ⟨hl,fun e=>?_⟩;rw [ZR e] at h;exact absurd h Zd
  ·rw [ZR hl] at h;exact absurd h hl
theorem Kc (l:List Int) (x:Int):0≤index l x↔x∈l:=by
 unfold index;cases h:l.findIdx? (fun y=>y == x) with
 | none=>
  have:=List.findIdx?_eq_none_iff.1 h;constructor
  ·intro h;exact absurd h Zd
  ·intro hx;have:=this x hx;simp at this
 | some i=>
  obtain ⟨hi,h1,_⟩:=List.findIdx?_eq_some_iff_getElem.1 h;have h1:l[i]=x:=by simpa using h1
  exact ⟨fun _=>by rw [←h1];exact PA hi,fun _=>qD _⟩
theorem Ez (R:Room) (x:Int):∀ k n,(RZ R x k n).2.2=false↔∀ m,n≤m→m<n+k→(R.src m).there=true→x ∉ (R.src m).ss
 | 0,n=>by simp [RZ];omega
 | k+1,n=>by
  unfold RZ;by_cases hc:((R.src n).there && decide (0≤index (R.src n).ss x))=true
  ·rw [ZR hc];rw [UR,Pz,Kc] at hc;constructor
   ·intro h;cases h
   ·intro h;exact absurd hc.2 (h n (Zw _) Zo hc.1)
  ·rw [Z4 hc,Ez R x k (n+1)];rw [UR,Pz,Kc] at hc;constructor
   ·intro h m h1 h2 h3 h4;by_cases e:m=n
    ·subst e;exact hc ⟨h3,h4⟩
    ·exact h m Zo Zo h3 h4
   ·intro h m h1 h2;exact h m Zo Zo
theorem uZ {R:Room} {x:Int}:(of R x).2.2=false↔∀ m,m<9→(R.src m).there=true→x ∉ (R.src m).ss:=by
 unfold of;rw [Ez];exact ⟨fun h m hm=>h m (Tk _) Zo,fun h m _ hm=>h m Zo⟩
theorem EA (R:Room) (x:Int):∀ k n,(RZ R x k n).2.2=true→∃ m:Nat,n≤m∧m<n+k∧(R.src m).there=true∧x∈(R.src m).ss∧RZ R x k n=((m:Int),index (R.src m).ss x,true)
 | 0,n,h=>by simp [RZ] at h
 | k+1,n,h=>by
  unfold RZ at h ⊢;by_cases hc:((R.src n).there && decide (0≤index (R.src n).ss x))=true
  ·rw [ZR hc] at h ⊢;rw [UR,Pz,Kc] at hc;exact ⟨n,Zw _,Zo,hc.1,hc.2,rfl⟩
  ·rw [Z4 hc] at h ⊢;obtain ⟨m,h1,h2,h3⟩:=EA R x k (n+1) h;exact ⟨m,Zo,Zo,h3⟩
theorem P7 {R:Room} {x:Int} (h:(of R x).2.2=true):∃ m:Nat,m<9∧(R.src m).there=true∧x∈(R.src m).ss∧of R x=((m:Int),index (R.src m).ss x,true):=by
 obtain ⟨m,_,h2,h3⟩:=EA R x 9 0 h;exact ⟨m,Zo,h3⟩
theorem GX (l:List Int) (h:∀ i,i<l.length→(l.take i).contains (l.getD i 0)=false):l.Nodup:=by
 unfold List.Nodup;rw [List.pairwise_iff_getElem];intro i j hi hj cW e;have:=h j hj;rw [SC,Vb hj,Option.getD_some] at this;rw [←e] at this
 have hm:l[i]∈l.take j:=by
  rw [List.mem_iff_getElem];exact ⟨i,by rw [S4];omega,by rw [List.getElem_take]⟩
 rw [List.contains_iff_mem.2 hm] at this;cases this
theorem G8 {R:Room} {o:Op} (h:VR R o=0):1≤o.ZK.length∧o.ZK.length≤3∧(∀ s∈o.ZK,2≤s∧s<3221225472)∧(R.src o.source.toNat).there=false∧o.ZK.Nodup∧∀ m x,m<9→(R.src m).there=true→x∈o.ZK→x ∉ (R.src m).ss:=by
 unfold VR at h;by_cases h1:o.ZK.length<1∨3<o.ZK.length
 ·rw [ZR h1] at h;exact absurd h Zd
 rw [Z4 h1] at h;by_cases h2:o.ZK.any (fun s=>decide (s<2) || decide (3221225472≤s))=true
 ·rw [ZR h2] at h;exact absurd h Zd
 rw [Z4 h2] at h;by_cases h3:(R.src o.source.toNat).there=true
 ·rw [ZR h3] at h;exact absurd h Zd
 rw [Z4 h3] at h;by_cases h4:(List.range o.ZK.length).any (Vv R o.ZK)=true
 ·rw [ZR h4] at h;exact absurd h Zd
 have h5:∀ i,i<o.ZK.length→(of R (o.ZK.getD i 0)).2.2=false∧(o.ZK.take i).contains (o.ZK.getD i 0)=false:=by
  intro i hi;have:¬Vv R o.ZK i=true:=fun e=>h4 (List.any_eq_true.2 ⟨i,by simpa using hi,e⟩)
  unfold Vv at this;rw [Bool.or_eq_true] at this;exact ⟨KM.2 fun e=>this (Ws e),KM.2 fun e=>this (Wh e)⟩
 refine ⟨Zo,Zo,?_,by simpa using h3,GX _ fun i hi=>(h5 i hi).2,?_⟩
 ·intro s hs;have:¬(decide (s<2) || decide (3221225472≤s))=true:=fun e=>h2 (List.any_eq_true.2 ⟨s,hs,e⟩)
  simp at this;omega
 ·intro m x hm ht hx;obtain ⟨i,hi,rfl⟩:=List.getElem_of_mem hx;have:=(h5 i hi).1;rw [SC,Vb hi,Option.getD_some,uZ] at this;exact this m hm ht
theorem uR {R:Room} {o:Op} (h:MA R o=0):Y_ R o.peer=false∧may o.name=true∧∀ q,q<9→R.names q≠[]→key (R.names q)≠key o.name:=by
 unfold MA at h;cases h1:Y_ R o.peer
 rotate_left
 ·rw [h1] at h;simp at h
 rw [h1] at h;cases h2:may o.name
 ·rw [h2] at h;simp at h
 rw [h2] at h;simp only [Bool.false_eq_true,if_false,Bool.not_true] at h;by_cases h3:(List.range 9).any (sameKey R o)=true
 ·rw [ZR h3] at h;exact absurd h Zd
 refine ⟨rfl,rfl,fun q hq hn e=>h3 (List.any_eq_true.2 ⟨q,by simpa using hq,?_⟩)⟩;unfold sameKey;simp [hn,e]
theorem pD {l:List UInt8} (h:may l=true):l≠[]:=by rintro rfl;cases h
theorem SK:Inv empty:=by
 refine ⟨⟨rfl,rfl⟩,?_,?_,?_,?_,?_⟩
 ·intro n p h;cases h
 ·intro n h;cases h
 ·intro n m x h;cases h
 ·intro p h;exact absurd rfl h
 ·intro p q h;exact absurd rfl h
theorem pj {R:Room} (hI:Inv R) {p:Nat} {nm:List UInt8} (hp:1≤p∧p<9) (h0:R.names p=[]) (hm:may nm=true) (hk:∀ q,q<9→R.names q≠[]→key (R.names q)≠key nm):Inv (R.setName p nm):=by
 have hjoin:∀ q,Y_ R q=true→Y_ (R.setName p nm) q=true:=by
  intro q h;unfold Y_ at h ⊢;rw [UR] at h ⊢;refine ⟨h.1,?_⟩;rw [X7];split
  ·have:=pD hm;simp [this]
  ·exact h.2
 refine ⟨⟨?_,hI.P6.2⟩,?_,?_,hI.apart,?_,?_⟩
 ·rw [X7,Z4 Zo];exact hI.P6.1
 ·intro n q h;have:=hI.Y9 n q h;have hq:q≠p:=by rintro rfl;exact this.2.2.2.2.2.1 h0
  rw [X7,Z4 hq];exact this
 ·intro n h;obtain ⟨h1,h2,h3,h4,h5⟩:=hI.YU n h;exact ⟨h1,h2,h3,hjoin _ h4,h5⟩
 ·intro q h;rw [X7] at h ⊢;by_cases hq:q=p
  ·rw [ZR hq];exact ⟨Zo,hm⟩
  ·rw [Z4 hq] at h ⊢;exact hI.nameAt q h
 ·intro q r h e;rw [X7] at h;rw [X7,X7] at e;by_cases hq:q=p
  ·rw [ZR hq] at e;by_cases hr:r=p
   ·omega
   ·rw [Z4 hr] at e;by_cases hn:R.names r=[]
    ·rw [hn] at e;exact absurd e (GQ hm)
    ·exact absurd e.symm (hk r (hI.nameAt r hn).1 hn)
  ·rw [Z4 hq] at h e;by_cases hr:r=p
   ·rw [ZR hr] at e;exact absurd e (hk q (hI.nameAt q h).1 h)
   ·rw [Z4 hr] at e;exact hI.keys q r h e
theorem Ae {R:Room} (hI:Inv R) {n p:Nat} {sv:Value} {ss:List Int} (hn:1≤n∧n<9) (hp:Y_ R p=true) (h0:(R.src n).there=false) (h1:1≤ss.length) (h3:ss.length≤3) (hr:∀ s∈ss,2≤s∧s<3221225472) (hd:ss.Nodup) (hx:∀ m x,m<9→(R.src m).there=true→x∈ss→x ∉ (R.src m).ss) :
  Inv (R.Y5 n ⟨true,n,p,sv,ss,false⟩):=by
 refine ⟨⟨hI.P6.1,?_⟩,?_,?_,?_,hI.nameAt,hI.keys⟩
 ·rw [Wy,Z4 Zo];exact hI.P6.2
 ·intro m q h;have:=hI.Y9 m q h;have hm:m≠n:=by rintro rfl;rw [h0] at this;exact absurd this.2.2.2.2.1 Zd
  rw [Wy,Z4 hm];exact this
 ·intro m h;rw [Wy] at h ⊢;by_cases hm:m=n
  ·rw [ZR hm];exact ⟨Zo,Zo,by rw [hm],hp,h1,h3,hd,hr⟩
  ·rw [Z4 hm] at h ⊢;exact hI.YU m h
 ·intro m k x a b c d;rw [Wy] at a b c d;by_cases hm:m=n
  ·by_cases hk:k=n
   ·omega
   ·rw [Z4 hk] at b d;rw [ZR hm] at c;exact absurd d (hx k x (hI.YU k b).2.1 b c)
  ·rw [Z4 hm] at a c;by_cases hk:k=n
   ·rw [ZR hk] at d;exact absurd c (hx m x (hI.YU m a).2.1 a d)
   ·rw [Z4 hk] at b d;exact hI.apart m k x a b c d
theorem Ib {R:Room} (hI:Inv R) {n p:Nat} {x:Sub} (h:x.there=true→1≤n∧n<9∧1≤p∧p<9∧(R.src n).there=true∧R.names p≠[]∧(R.src n).own≠p∧0≤x.want∧x.want<(R.src n).ss.length):Inv (R.ZP n p x):=by
 refine ⟨hI.P6,?_,hI.YU,hI.apart,hI.nameAt,hI.keys⟩;intro m q ht;rw [VI] at ht ⊢;by_cases h1:m=n∧q=p
 ·rw [ZR h1] at ht ⊢;rw [h1.1,h1.2];exact h ht
 ·rw [Z4 h1] at ht ⊢;exact hI.Y9 m q ht
theorem El {R:Room} (hI:Inv R) (n:Nat) (on:Bool):Inv (R.Y5 n {R.src n with ZE:=on}):=by
 have key:∀ m,((R.Y5 n {R.src n with ZE:=on}).src m).there=(R.src m).there∧((R.Y5 n {R.src n with ZE:=on}).src m).ss=(R.src m).ss∧((R.Y5 n {R.src n with ZE:=on}).src m).own=(R.src m).own∧((R.Y5 n {R.src n with ZE:=on}).src m).num=(R.src m).num:=by
  intro m;rw [Wy];split
  ·rename_i h;subst h;exact ⟨rfl,rfl,rfl,rfl⟩
  ·exact ⟨rfl,rfl,rfl,rfl⟩
 refine ⟨⟨hI.P6.1,?_⟩,?_,?_,?_,hI.nameAt,hI.keys⟩
 ·rw [(key 0).1];exact hI.P6.2
 ·intro m q h;rw [(key m).1,(key m).2.1,(key m).2.2.1];exact hI.Y9 m q h
 ·intro m h;rw [(key m).1] at h;rw [(key m).2.1,(key m).2.2.1,(key m).2.2.2];exact hI.YU m h
 ·intro m k x a b c d;rw [(key m).1] at a;rw [(key k).1] at b;rw [(key m).2.1] at c;rw [(key k).2.1] at d;exact hI.apart m k x a b c d
theorem sO {R:Room} {o:Op} (hI:Inv R) (ok:Ok R o) (sv:Value):Inv (turns R o sv).2:=by
 obtain ⟨kd,p,n,q,nm,ss⟩:=o;obtain ⟨hk,hp,hj,ht,hs,wI,ki,L9⟩:=ok;dsimp only at *
 obtain ⟨p,rfl⟩:=Rf (show 0≤p by omega);by_cases k2:kd=2
 ·subst k2;obtain ⟨h1,h2,h3⟩:=uR (hj rfl);show Inv (R.setName p nm);refine pj hI (p:=p) Zo ?_ h2 h3;rw [KM,ne_eq,GP] at h1;exact Classical.not_not.1 fun e=>h1 ⟨Zo,Zo,e⟩
 have hjp:=GP.1 (ht k2);by_cases k3:kd=3
 ·subst k3;show Inv (leave R p).2;exact sN hI p
 obtain ⟨n,rfl⟩:=Rf (show 0≤n by have:=hs Zo;omega);have hn:=hs Zo;by_cases k4:kd=4
 ·subst k4;obtain ⟨h1,h2,h3,h4,h5,h6⟩:=G8 (wI rfl);show Inv (R.Y5 n ⟨true,n,p,sv,ss,false⟩);exact Ae hI Zo (ht k2) h4 h1 h2 h3 h5 h6
 have ki:=ki Zo;have his':(R.src n).there=true:=by rw [Wz] at ki;exact ki
 have L9:=L9 Zo;have R_:(R.sub n p).there=true→1≤n∧n<9∧1≤p∧p<9∧(R.src n).there=true∧R.names p≠[]∧(R.src n).own≠p∧0≤(R.sub n p).want∧(R.sub n p).want<(R.src n).ss.length:=hI.Y9 n p;by_cases k5:kd=5
 ·subst k5;show Inv (gone R n).2;exact GJ hI n
 by_cases k6:kd=6
 ·subst k6;obtain ⟨h1,h2,h3⟩:=OT L9 rfl;have h4:=Pd h3;show Inv (R.ZP n p ⟨true,false,q⟩);exact Ib hI fun _=>⟨Zo,Zo,Zo,Zo,his',hjp.2.2,h1,h4.1,h4.2⟩
 by_cases k7:kd=7
 ·subst k7;show Inv (R.ZP n p U7);exact uQ hI n p
 by_cases k8:kd=8
 ·subst k8;show Inv (R.Y5 n {R.src n with ZE:=true});exact El hI n true
 by_cases k9:kd=9
 ·subst k9;show Inv (R.Y5 n {R.src n with ZE:=false});exact El hI n false
 obtain ⟨h1,_,_,h4⟩:=TD L9 (by right;show 10≤kd;omega);have hb:=R_ h1;by_cases k10:kd=10
 ·subst k10;show Inv (R.ZP n p {R.sub n p with ZQ:=true});exact Ib hI fun _=>hb
 by_cases k11:kd=11
 ·subst k11;show Inv (R.ZP n p {R.sub n p with ZQ:=false});exact Ib hI fun _=>hb
 have k12:kd=12:=by omega
 subst k12;have h5:=Pd (h4 rfl).1;show Inv (R.ZP n p {R.sub n p with want:=q});exact Ib hI fun _=>⟨hb.1,hb.2.1,hb.2.2.1,hb.2.2.2.1,hb.2.2.2.2.1,hb.2.2.2.2.2.1,hb.2.2.2.2.2.2.1,h5.1,h5.2⟩
theorem Ct {R:Room} (hI:Inv R) (o:Op) (sv:Value):Inv (Wm R o sv).1.2:=by
 unfold Wm;by_cases h:X4 R o=0
 ·rw [Z4 (by simpa using h)];exact sO hI (Pw h) sv
 ·rw [ZR h];exact hI
theorem Mf {R:Room} (hI:Inv R) (p x:Int):Inv (YS R p x).1.2:=by
 unfold YS;split
 ·exact hI
 ·exact GJ hI _
def Src.bare (s:Src):Src:={s with sv:= .slice none 0 0}
def Room.bare (R:Room):Room:=⟨R.names,fun n=>(R.src n).bare,R.sub⟩
theorem Ey (R:Room) (x:Int):∀ k n,RZ R.bare x k n=RZ R x k n
 | 0,_=>rfl
 | k+1,n=>by
  show (if (R.src n).there && decide (0≤index (R.src n).ss x) then ((n:Int),index (R.src n).ss x,true) else RZ R.bare x k (n+1))=_;rw [Ey R x k (n+1)];rfl
theorem Lf (R:Room) (x:Int):of R.bare x=of R x:=Ey R x 9 0
theorem x_ (R:Room) (l:List Int):Vv R.bare l=Vv R l:=by
 funext i;unfold Vv;rw [Lf]
theorem G9 (R:Room) (o:Op):VR R.bare o=VR R o:=by
 unfold VR;rw [x_];rfl
theorem yh (R:Room) (o:Op):X4 R.bare o=X4 R o:=by
 unfold X4;rw [G9];rfl
theorem PS (R:Room) (n:Nat) (x:Src):(R.Y5 n x).bare=R.bare.Y5 n x.bare:=by
 unfold Room.Y5 Room.bare
 congr 1
 funext m;dsimp only;split <;> rfl
theorem I7 (n:Nat):∀ l R,Xm n l R.bare=((Xm n l R).1,(Xm n l R).2.bare)
 | [],R=>rfl
 | p :: l,R=>by
  have ih:=I7 n l (R.ZP n p U7);show ((⟨3,p,n,0,0⟩:YB) :: ⟨2,p,n,0,0⟩ :: (Xm n l (R.ZP n p U7).bare).1,(Xm n l (R.ZP n p U7).bare).2)=_;rw [ih];rfl
theorem MZ (R:Room) (n:Nat):gone R.bare n=((gone R n).1,(gone R n).2.bare):=by
 unfold gone;dsimp only;rw [show Z0 R.bare n=Z0 R n from rfl,I7,PS];rfl
theorem JK (p:Nat) (R:Room):∀ k,ZM p R.bare k=((ZM p R k).1,(ZM p R k).2.bare)
 | 0=>rfl
 | k+1=>by
  have ih:=JK p R k;unfold ZM;dsimp only;rw [ih];dsimp only;show (if ((ZM p R k).2.sub k p).there=true then _ else _)=_;split <;> rfl
theorem JM (R:Room) (p:Nat):∀ k,ZI R.bare p k=((ZI R p k).1,(ZI R p k).2.bare)
 | 0=>rfl
 | k+1=>by
  have ih:=JM R p k;unfold ZI;dsimp only;rw [ih];dsimp only;rw [MZ];show (if ((R.src k).there && decide ((R.src k).own=p))=true then _ else _)=_;split <;> rfl
theorem wR (R:Room) (p:Nat):leave R.bare p=((leave R p).1,(leave R p).2.bare):=by
 unfold leave;rw [JK,JM];rfl
theorem vQ (R:Room) (o:Op):begin R.bare o=((begin R o).1,(begin R o).2.bare):=rfl
theorem Eu (R:Room) (n:Nat) (on:Bool):mute R.bare n on=((mute R n on).1,(mute R n on).2.bare):=by
 have h:R.bare.Y5 n {R.bare.src n with ZE:=on}=(R.Y5 n {R.src n with ZE:=on}).bare:=by rw [PS];rfl
 unfold mute;dsimp only;rw [h];rfl
theorem xZ (R:Room) (o:Op) (sv Bj:Value):(turns R.bare o Bj).1=(turns R o sv).1∧(turns R.bare o Bj).2.bare=(turns R o sv).2.bare:=by
 have bb:∀ Q:Room,Q.bare.bare=Q.bare:=fun _=>rfl
 unfold turns;dsimp only;by_cases k2:o.kind=2
 ·rw [ZR k2,ZR k2];exact ⟨rfl,rfl⟩
 rw [Z4 k2,Z4 k2];by_cases k3:o.kind=3
 ·rw [ZR k3,ZR k3,wR];exact ⟨rfl,rfl⟩
 rw [Z4 k3,Z4 k3];by_cases k4:o.kind=4
 ·rw [ZR k4,ZR k4];exact ⟨rfl,by rw [PS,PS];rfl⟩
 rw [Z4 k4,Z4 k4];by_cases k5:o.kind=5
 ·rw [ZR k5,ZR k5,MZ];exact ⟨rfl,rfl⟩
 rw [Z4 k5,Z4 k5];by_cases k6:o.kind=6
 ·rw [ZR k6,ZR k6,vQ];exact ⟨rfl,rfl⟩
 rw [Z4 k6,Z4 k6];by_cases k7:o.kind=7
 ·rw [ZR k7,ZR k7];exact ⟨rfl,rfl⟩
 rw [Z4 k7,Z4 k7];by_cases k8:o.kind=8
 ·rw [ZR k8,ZR k8,Eu];exact ⟨rfl,rfl⟩
 rw [Z4 k8,Z4 k8];by_cases k9:o.kind=9
 ·rw [ZR k9,ZR k9,Eu];exact ⟨rfl,rfl⟩
 rw [Z4 k9,Z4 k9];by_cases k10:o.kind=10
 ·rw [ZR k10,ZR k10];exact ⟨rfl,rfl⟩
 rw [Z4 k10,Z4 k10];by_cases k11:o.kind=11
 ·rw [ZR k11,ZR k11];exact ⟨rfl,rfl⟩
 rw [Z4 k11,Z4 k11];by_cases k12:o.kind=12
 ·rw [ZR k12,ZR k12];exact ⟨rfl,rfl⟩
 rw [Z4 k12,Z4 k12];exact ⟨rfl,rfl⟩
theorem zH (R:Room) (o:Op) (sv Bj:Value):(Wm R.bare o Bj).1.1=(Wm R o sv).1.1∧(Wm R.bare o Bj).2=(Wm R o sv).2∧(Wm R.bare o Bj).1.2.bare=(Wm R o sv).1.2.bare:=by
 unfold Wm;rw [yh];by_cases h:X4 R o=0
 ·rw [Z4 (by simpa using h),Z4 (by simpa using h)];obtain ⟨h1,h2⟩:=xZ R o sv Bj;exact ⟨h1,rfl,h2⟩
 ·rw [ZR h,ZR h];exact ⟨rfl,rfl,rfl⟩
end Go.Proofs.Rm
