/- Several texts in one: What feedback holds and what it does, in bounds. Plain. A script, operation by operation: what is taken does not hang on the slice values. Plain. What package book computes while it reads. Plain. How many turns and lives there are. Plain. What package book says of a life, place by place. Plain. The walk of report.Get: a report (under way). -/
import Derived.Deep.RegionHeld3
import Derived.Deep.DeepCutAuto
import Derived.IntWalk
import Derived.Test.YtpdjhlcbcomdkaaGreatDoorV01
import Derived.Test.YtpdjhlcbcomdkaaGreatDoorV03
import Derived.Test.YtpdjhlcbcomdkaaGreatDoorV05
import Derived.Test.YtpdjhlcbcomdkaaGreatDoorV06
import Derived.Test.YtpdjhlcbcomdkaaGreatDoorV09
import Derived.Test.YtpdjhlcbcomdkaaGreatDoorV10
import Derived.Test.YtpdjhlcbcomdkaaGreatDoorV11
set_option linter.unusedVariables false
set_option linter.unusedSimpArgs false
set_option linter.unusedSimpArgs false
namespace Go.Proofs.By
open Go.Proofs.Rm (Room Turn inn of goneOp joined doo hears Inv inv_goneOp gone_len Slim slim_goneOp)
structure ItmOk (i:Itm):Prop where
 m0:0≤i.media
 m1:i.media<4294967296
 g:i.gone.length≤128
 b:i.blocks.length≤128
 p:i.pairs.length≤128
theorem get4_lt (b:List UInt8) (p:Int):get b p 4<4294967296:=by
 unfold get
 split
 ·exact be_lt4 Yo23
 ·decide
theorem noItm_ok:ItmOk noItm:=⟨by decide,by decide,by decide,by decide,by decide⟩
theorem report_ok (b:List UInt8):ItmOk (report b):=⟨by show (0:Int)≤0;decide,by show (0:Int)<4294967296;decide,Nat.zero_le _,by show ((List.range (at8 b 0 % 32)).map _).length≤128;rw [List.length_map,List.length_range];omega,Nat.zero_le _⟩
theorem iwords_le {b:List UInt8} (h:b.length≤512) (p:Nat):(iwords b p).length≤128:=by unfold iwords;rw [List.length_map,List.length_range];omega
theorem parts_ok {b:List UInt8} (h:b.length≤512) (k:Nat):ItmOk (parts b k):=by
 unfold parts
 by_cases h1:k=203
 ·rw [if_pos h1]
  exact ⟨by show (0:Int)≤0;decide,by show (0:Int)<4294967296;decide,by show ((iwords b 4).map _).length≤128;rw [List.length_map];exact iwords_le h 4,Nat.zero_le _,Nat.zero_le _⟩
 ·rw [if_neg h1]
  have hg:=get4_lt b 8
  exact ⟨by show (0:Int)≤(get b 8 4:Int);omega,by show (get b 8 4:Int)<4294967296;omega,Nat.zero_le _,Nat.zero_le _,by show ((iwords b 12).map _).length≤128;rw [List.length_map];exact iwords_le h 12⟩
theorem itemGet_ok {b:List UInt8} (h:b.length≤512):ItmOk (itemGet b).1.1:=by
 unfold itemGet
 split
 ·exact noItm_ok
 split
 ·exact noItm_ok
 split
 ·exact noItm_ok
 split
 ·unfold reportGet
  split
  ·exact noItm_ok
  ·exact report_ok b
 dsimp only
 split
 ·exact noItm_ok
 split
 ·exact noItm_ok
 ·exact parts_ok Yo23 _
theorem itemsGo_ok:∀ (k:Nat) (b:List UInt8),b.length≤512→(∀ i∈(itemsGo k b).1,ItmOk i)∧(itemsGo k b).1.length≤k
 | 0,b,h=>⟨fun i hi=>(by cases hi),Nat.le_refl _⟩
 | k+1,b,h=>by
  unfold itemsGo
  split
  ·exact ⟨fun i hi=>(by cases hi),Nat.zero_le _⟩
  split
  ·exact ⟨fun i hi=>by rw [List.mem_singleton] at hi;subst hi;exact itemGet_ok h,by show 1≤k+1;omega⟩
  have ih:=itemsGo_ok k (b.drop (itemGet b).1.2) (by rw [List.length_drop];omega)
  dsimp only
  split
  ·exact ⟨fun i hi=>(by cases hi),Nat.zero_le _⟩
  ·refine ⟨fun i hi=>?_,by rw [List.length_cons];exact Nat.succ_le_succ ih.2⟩
   rcases List.mem_cons.1 hi with rfl|hi
   ·exact itemGet_ok h
   ·exact ih.1 i hi
theorem itemsGet_ok (b:List UInt8):(∀ i∈(itemsGet b).1,ItmOk i)∧(itemsGet b).1.length≤8:=by
 unfold itemsGet
 split
 ·exact ⟨fun i hi=>(by cases hi),Nat.zero_le _⟩
 ·exact itemsGo_ok 8 b (by omega)
theorem sift_feed {b:List UInt8} (h3:192≤at8 b 1∧at8 b 1≤223) (h:(sift b).2=0):(sift b).1 = .feedback (itemsGet b).1:=by
 unfold sift at h ⊢
 by_cases h1:512<b.length
 ·rw [if_pos h1] at h;cases h
 rw [if_neg h1] at h ⊢
 by_cases h2:b.length<2
 ·rw [if_pos h2] at h;cases h
 rw [if_neg h2,if_pos h3] at h ⊢
 by_cases h4:(itemsGet b).2≠0
 ·rw [if_pos h4] at h;exact absurd h h4
 ·rw [if_neg h4]
theorem goneOp_len (R:Room) (p x:Int):(goneOp R p x).1.1.length≤18:=by
 unfold goneOp
 split
 ·exact Nat.zero_le _
 ·exact gone_len _ _
theorem cnt_le (e:Int):0≤cnt e∧cnt e≤1:=by unfold cnt;split <;> omega
theorem goneAll_ok (peer:Int):∀ (l:List Int) (R:Room),Inv R→Slim R→Inv (goneAll peer l R).1.2∧Slim (goneAll peer l R).1.2∧(goneAll peer l R).1.1.length≤18*l.length∧0≤(goneAll peer l R).2∧(goneAll peer l R).2≤l.length
 | [],R,h,hs=>⟨h,hs,Nat.le_refl _,Int.le_refl _,Int.le_refl _⟩
 | x :: l,R,h,hs=>by
  have ih:=goneAll_ok peer l (goneOp R peer x).1.2 (inv_goneOp h peer x) (slim_goneOp hs peer x)
  have h1:=goneOp_len R peer x
  have h2:=cnt_le (goneOp R peer x).2
  unfold goneAll
  refine ⟨ih.1,ih.2.1,?_,?_,?_⟩
  ·show ((goneOp R peer x).1.1++_).length≤_
   rw [List.length_append,List.length_cons];have:=ih.2.2.1;omega
  ·show 0≤cnt _+_;have:=ih.2.2.2.1;omega
  ·show cnt _+_≤((l.length+1:Nat):Int);have:=ih.2.2.2.2;omega
theorem itemDo_ok {R:Room} (h:Inv R) (hs:Slim R) (peer:Int) {i:Itm} (hi:ItmOk i):Inv (itemDo R peer i).1.2∧Slim (itemDo R peer i).1.2∧(itemDo R peer i).1.1.length≤3000∧0≤(itemDo R peer i).2∧(itemDo R peer i).2≤1000:=by
 unfold itemDo
 split
 ·exact ⟨h,hs,Nat.zero_le _,by dsimp only;split <;> omega,by dsimp only;split <;> omega⟩
 split
 ·exact ⟨h,hs,Nat.zero_le _,by dsimp only;split <;> omega,by dsimp only;split <;> omega⟩
 split
 ·have:=goneAll_ok peer i.gone R h hs
  have hg:=hi.g
  exact ⟨this.1,this.2.1,by omega,this.2.2.2.1,by omega⟩
 ·exact ⟨h,hs,Nat.zero_le _,Int.le_refl _,by show (0:Int)≤1000;decide⟩
theorem itemsDo_ok (peer:Int):∀ (l:List Itm) (R:Room),Inv R→Slim R→(∀ i∈l,ItmOk i)→Inv (itemsDo peer l R).1.2∧Slim (itemsDo peer l R).1.2∧(itemsDo peer l R).1.1.length≤3000*l.length∧0≤(itemsDo peer l R).2∧(itemsDo peer l R).2≤1000*l.length
 | [],R,h,hs,hi=>⟨h,hs,Nat.le_refl _,Int.le_refl _,Int.le_refl _⟩
 | x :: l,R,h,hs,hi=>by
  have h1:=itemDo_ok h hs peer (hi x (List.mem_cons_self ..))
  have ih:=itemsDo_ok peer l (itemDo R peer x).1.2 h1.1 h1.2.1 (fun i h=>hi i (List.mem_cons_of_mem _ h))
  unfold itemsDo
  refine ⟨ih.1,ih.2.1,?_,?_,?_⟩
  ·show ((itemDo R peer x).1.1++_).length≤_
   rw [List.length_append,List.length_cons];have:=ih.2.2.1;omega
  ·show 0≤(itemDo R peer x).2+_;have:=ih.2.2.2.1;omega
  ·show (itemDo R peer x).2+_≤((1000:Int)*((l.length+1:Nat):Int));have:=ih.2.2.2.2;omega
theorem datagram_ok {R:Room} (h:Inv R) (hs:Slim R) (ep p:Int) (l:List UInt8):Inv (datagram R ep p l).1.2∧Slim (datagram R ep p l).1.2∧0≤(datagram R ep p l).1.1.unknown∧(datagram R ep p l).1.1.unknown≤8000∧ep≤(datagram R ep p l).2∧(datagram R ep p l).2≤ep+1:=by
 unfold datagram
 by_cases h1:(sift l).2≠0
 ·rw [if_pos h1];exact ⟨h,hs,by show (0:Int)≤0;decide,by show (0:Int)≤8000;decide,Int.le_refl _,by show ep≤ep+1;omega⟩
 rw [if_neg h1]
 by_cases h2:(!joined R p)=true
 ·rw [if_pos h2];exact ⟨h,hs,by show (0:Int)≤0;decide,by show (0:Int)≤8000;decide,Int.le_refl _,by show ep≤ep+1;omega⟩
 rw [if_neg h2]
 by_cases h3:192≤at8 l 1∧at8 l 1≤223
 ·rw [sift_feed h3 (by omega)]
  have hk:=itemsGet_ok l
  have:=itemsDo_ok p (itemsGet l).1 R h hs hk.1
  exact ⟨this.1,this.2.1,this.2.2.2.1,by show (itemsDo p (itemsGet l).1 R).2≤8000;omega,by show ep≤ep+1;omega,Int.le_refl _⟩
 ·rcases hsf:(sift l).1 with _|⟨P,d⟩|fl
  ·exact ⟨h,hs,by show (0:Int)≤0;decide,by show (0:Int)≤8000;decide,by show ep≤ep+1;omega,Int.le_refl _⟩
  ·dsimp only
   refine ⟨h,hs,?_,?_,Int.le_refl _,by omega⟩
   ·unfold mediaT;split <;> (show (0:Int)≤0;decide)
   ·unfold mediaT;split <;> (show (0:Int)≤8000;decide)
  ·exfalso
   unfold sift at hsf
   rw [if_neg h3] at hsf
   split at hsf
   ·cases hsf
   split at hsf
   ·cases hsf
   split at hsf
   ·cases hsf
   split at hsf
   ·cases hsf
   ·cases hsf
end Go.Proofs.By
set_option linter.unusedSimpArgs false
namespace Go.Proofs.By
open Go.Proofs.Rm (Room Turn inn of goneOp joined doo hears Inv Slim inv_doo slim_doo of_bare gone_bare doo_bare gone inv_empty slim_empty)
theorem owned_bare (R:Room) (p x:Int):owned R.bare p x=owned R p x:=by
 unfold owned
 rw [of_bare]
 rfl
theorem goneOp_bare (R:Room) (p x:Int):goneOp R.bare p x=(((goneOp R p x).1.1,(goneOp R p x).1.2.bare),(goneOp R p x).2):=by
 have h1:joined R.bare p=joined R p:=rfl
 have h2:∀ n,(R.bare.src n).own=(R.src n).own:=fun _=>rfl
 unfold goneOp
 rw [of_bare,h1,h2,gone_bare]
 split <;> rfl
theorem goneAll_bare (p:Int):∀ (l:List Int) (R:Room),goneAll p l R.bare=(((goneAll p l R).1.1,(goneAll p l R).1.2.bare),(goneAll p l R).2)
 | [],R=>rfl
 | x :: l,R=>by
  unfold goneAll
  rw [goneOp_bare]
  dsimp only
  rw [goneAll_bare p l]
theorem itemDo_bare (R:Room) (p:Int) (i:Itm):itemDo R.bare p i=(((itemDo R p i).1.1,(itemDo R p i).1.2.bare),(itemDo R p i).2):=by
 have h1:heardBy R.bare p i.media=heardBy R p i.media:=rfl
 unfold itemDo
 rw [owned_bare,h1,goneAll_bare]
 split
 ·rfl
 split
 ·rfl
 split <;> rfl
theorem itemsDo_bare (p:Int):∀ (l:List Itm) (R:Room),itemsDo p l R.bare=(((itemsDo p l R).1.1,(itemsDo p l R).1.2.bare),(itemsDo p l R).2)
 | [],R=>rfl
 | x :: l,R=>by
  unfold itemsDo
  rw [itemDo_bare]
  dsimp only
  rw [itemsDo_bare p l]
theorem mediaT_bare (R:Room) (ep p:Int) (P:Pkt) (d:Dsc):mediaT R.bare ep p P d=mediaT R ep p P d:=by
 unfold mediaT
 rw [owned_bare,of_bare]
theorem datagram_bare (R:Room) (ep p:Int) (l:List UInt8):datagram R.bare ep p l=(((datagram R ep p l).1.1,(datagram R ep p l).1.2.bare),(datagram R ep p l).2):=by
 have h1:joined R.bare p=joined R p:=rfl
 unfold datagram
 rw [h1]
 split
 ·rfl
 split
 ·rfl
 cases (sift l).1 with
 | none=>rfl
 | media P d=>dsimp only;rw [mediaT_bare]
 | feedback fl=>dsimp only;rw [itemsDo_bare]
theorem take_bare (R:Room) (ep:Int) (o:Rm.Op) (l:List UInt8) (sv sv':Value):(take R.bare ep o l sv').1.1=(take R ep o l sv).1.1∧(take R.bare ep o l sv').1.2.bare=(take R ep o l sv).1.2.bare∧(take R.bare ep o l sv').2=(take R ep o l sv).2:=by
 unfold take
 by_cases h:o.kind=1
 ·rw [if_pos h,if_pos h,datagram_bare]
  exact ⟨rfl,rfl,rfl⟩
 ·rw [if_neg h,if_neg h]
  obtain ⟨h1,h2,h3⟩:=doo_bare R o sv sv'
  rw [h2]
  by_cases h4:(doo R o sv).2≠0
  ·rw [if_pos h4,if_pos h4];exact ⟨rfl,rfl,rfl⟩
  ·rw [if_neg h4,if_neg h4]
   dsimp only
   rw [h1]
   exact ⟨rfl,h3,rfl⟩
theorem take_ok {R:Room} (h:Inv R) (hs:Slim R) (ep:Int) (o:Rm.Op) (l:List UInt8) (sv:Value):Inv (take R ep o l sv).1.2∧Slim (take R ep o l sv).1.2∧0≤(take R ep o l sv).1.1.unknown∧(take R ep o l sv).1.1.unknown≤8000∧ep≤(take R ep o l sv).2∧(take R ep o l sv).2≤ep+1:=by
 unfold take
 split
 ·exact datagram_ok h hs ep o.peer l
 split
 ·exact ⟨h,hs,by show (0:Int)≤0;decide,by show (0:Int)≤8000;decide,Int.le_refl _,by show ep≤ep+1;omega⟩
 ·exact ⟨inv_doo h o sv,slim_doo hs o sv,by show (0:Int)≤0;decide,by show (0:Int)≤8000;decide,by show ep≤ep+1;omega,Int.le_refl _⟩
theorem take_epoch (R:Room) (ep:Int) (o:Rm.Op) (l:List UInt8) (sv:Value):((take R ep o l sv).1.1.adm.kind=2∧(take R ep o l sv).1.1.adm.epoch=ep+1∧(take R ep o l sv).2=ep+1)∨((take R ep o l sv).1.1.adm.kind≠2∧(take R ep o l sv).2=ep∧((take R ep o l sv).1.1.adm.kind=1→(take R ep o l sv).1.1.adm.epoch=ep)):=by
 unfold take
 split
 ·unfold datagram
  split
  ·exact Or.inr ⟨by show (3:Int)≠2;decide,rfl,fun h=>absurd h (by show (3:Int)≠1;decide)⟩
  split
  ·exact Or.inr ⟨by show (4:Int)≠2;decide,rfl,fun h=>absurd h (by show (4:Int)≠1;decide)⟩
  cases (sift l).1 with
  | none=>exact Or.inl ⟨rfl,rfl,rfl⟩
  | media P d=>
   dsimp only
   unfold mediaT
   split
   ·exact Or.inr ⟨by show (1:Int)≠2;decide,rfl,fun _=>rfl⟩
   ·exact Or.inr ⟨by show (5:Int)≠2;decide,rfl,fun h=>absurd h (by show (5:Int)≠1;decide)⟩
  | feedback fl=>exact Or.inl ⟨rfl,rfl,rfl⟩
 split
 ·exact Or.inr ⟨by show (6:Int)≠2;decide,rfl,fun h=>absurd h (by show (6:Int)≠1;decide)⟩
 ·exact Or.inl ⟨rfl,rfl,rfl⟩
def runTo (L:List OpB):Nat→Room × Int
 | 0=>(Rm.empty,0)
 | k+1=>match L[k]? with
  | none=>runTo L k
  | some y=>((take (runTo L k).1 (runTo L k).2 y.x.o y.b (.slice none 0 0)).1.2.bare,(take (runTo L k).1 (runTo L k).2 y.x.o y.b (.slice none 0 0)).2)
def takenAt (L:List OpB) (k:Nat):Taken:=match L[k]? with
 | none=>noTaken
 | some y=>(take (runTo L k).1 (runTo L k).2 y.x.o y.b (.slice none 0 0)).1.1
theorem run_step {L:List OpB} {k:Nat} {y:OpB} {R:Room} {ep:Int} (hy:L[k]?=some y) (hR:R.bare=(runTo L k).1) (he:ep=(runTo L k).2) (sv:Value) :
  (take R ep y.x.o y.b sv).1.1=takenAt L k∧(take R ep y.x.o y.b sv).1.2.bare=(runTo L (k+1)).1∧(take R ep y.x.o y.b sv).2=(runTo L (k+1)).2:=by
 obtain ⟨h1,h2,h3⟩:=take_bare R ep y.x.o y.b sv (.slice none 0 0)
 rw [hR,he] at h1 h2 h3
 have e1:takenAt L k=(take (runTo L k).1 (runTo L k).2 y.x.o y.b (.slice none 0 0)).1.1:=by unfold takenAt;rw [hy]
 have e2:runTo L (k+1)=((take (runTo L k).1 (runTo L k).2 y.x.o y.b (.slice none 0 0)).1.2.bare,(take (runTo L k).1 (runTo L k).2 y.x.o y.b (.slice none 0 0)).2):=by
  conv=>lhs;unfold runTo
  rw [hy]
 rw [e1,e2,he]
 exact ⟨h1.symm,h2.symm,h3.symm⟩
theorem run_epoch {L:List OpB} {k:Nat} (hk:k<L.length):((takenAt L k).adm.kind=2∧(takenAt L k).adm.epoch=(runTo L k).2+1∧(runTo L (k+1)).2=(runTo L k).2+1)∨((takenAt L k).adm.kind≠2∧(runTo L (k+1)).2=(runTo L k).2∧((takenAt L k).adm.kind=1→(takenAt L k).adm.epoch=(runTo L k).2)):=by
 have hy:L[k]?=some L[k]:=List.getElem?_eq_getElem hk
 have e1:takenAt L k=(take (runTo L k).1 (runTo L k).2 L[k].x.o L[k].b (.slice none 0 0)).1.1:=by unfold takenAt;rw [hy]
 have e2:(runTo L (k+1)).2=(take (runTo L k).1 (runTo L k).2 L[k].x.o L[k].b (.slice none 0 0)).2:=by
  conv=>lhs;unfold runTo
  rw [hy]
 rw [e1,e2]
 exact take_epoch _ _ _ _ _
theorem run_bound (L:List OpB):∀ k,0≤(runTo L k).2∧(runTo L k).2≤k
 | 0=>⟨Int.le_refl _,Int.le_refl _⟩
 | k+1=>by
  have ih:=run_bound L k
  by_cases hk:k<L.length
  ·rcases run_epoch hk with ⟨_,_,h⟩|⟨_,h,_⟩ <;> (rw [h];omega)
  ·have e2:runTo L (k+1)=runTo L k:=by
    conv=>lhs;unfold runTo
    rw [List.getElem?_eq_none (by omega)]
   rw [e2];omega
end Go.Proofs.By
namespace Go.Proofs.By
open Go.Proofs.Rm (Turn)
structure Life where
 peer:Int
 source:Int
 bgn:Int
 fin:Int
deriving DecidableEq
def noLife:Life:=⟨0,0,0,0⟩
def endGo (p s at':Int) (ls:List Life):Nat→List Life
 | 0=>ls
 | k+1=>if (ls.getD k noLife).peer=p∧(ls.getD k noLife).source=s then ls.set k {ls.getD k noLife with fin:=at'} else endGo p s at' ls k
def lifeTurn (n at':Int) (ls:List Life) (t:Turn):List Life:=
 if t.kind=1 then ls++[⟨t.peer,t.source,at',n⟩]
 else if t.kind=2 then endGo t.peer t.source at' ls ls.length
 else ls
theorem endGo_len (p s at':Int) (ls:List Life):∀ k,(endGo p s at' ls k).length=ls.length
 | 0=>rfl
 | k+1=>by
  unfold endGo
  split
  ·rw [List.length_set]
  ·exact endGo_len p s at' ls k
theorem lifeTurn_len (n at':Int) (ls:List Life) (t:Turn):(lifeTurn n at' ls t).length≤ls.length+1:=by
 unfold lifeTurn
 split
 ·rw [List.length_append];exact Nat.le_refl _
 split
 ·rw [endGo_len];omega
 ·omega
def livesOf (n at':Int) (ls:List Life) (ts:List Turn):List Life:=ts.foldl (lifeTurn n at') ls
theorem livesOf_snoc (n at':Int) (ls:List Life) (ts:List Turn) (t:Turn):livesOf n at' ls (ts++[t])=lifeTurn n at' (livesOf n at' ls ts) t:=by
 unfold livesOf
 rw [List.foldl_append]
 rfl
theorem livesOf_len (n at':Int):∀ (ts:List Turn) (ls:List Life),(livesOf n at' ls ts).length≤ls.length+ts.length
 | [],ls=>Nat.le_refl _
 | t :: ts,ls=>by
  have h1:=livesOf_len n at' ts (lifeTurn n at' ls t)
  have h2:=lifeTurn_len n at' ls t
  show (livesOf n at' (lifeTurn n at' ls t) ts).length≤_
  rw [List.length_cons]
  omega
def livesTo (L:List OpB) (n:Int):Nat→List Life
 | 0=>[]
 | k+1=>livesOf n k (livesTo L n k) (takenAt L k).turns
def admsTo (L:List OpB) (k:Nat):List Adm:=(List.range k).map fun j=>(takenAt L j).adm
theorem admsTo_succ (L:List OpB) (k:Nat):admsTo L (k+1)=admsTo L k++[(takenAt L k).adm]:=by unfold admsTo;rw [List.range_succ,List.map_append];rfl
theorem admsTo_len (L:List OpB) (k:Nat):(admsTo L k).length=k:=by unfold admsTo;rw [List.length_map,List.length_range]
end Go.Proofs.By
set_option linter.unusedSimpArgs false
namespace Go.Proofs.By
open Go.Proofs.Rm (Room Turn inn of goneOp joined doo turns gone_len leave1_len leave2_len subs_len muteAll_len)
theorem waits_le (R:Room) (p n:Nat):(Rm.waits R p n).length≤1:=by unfold Rm.waits;split <;> simp
theorem mute_le (R:Room) (n:Nat) (on:Bool):(Rm.mute R n on).1.length≤18:=by
 have h1:=muteAll_len (R.setSrc n {R.src n with muted:=on}) n on (Rm.subs (R.setSrc n {R.src n with muted:=on}) n)
 have h2:=subs_len (R.setSrc n {R.src n with muted:=on}) n
 show ((Rm.subs (R.setSrc n {R.src n with muted:=on}) n).flatMap _).length≤18
 omega
theorem turns_le (R:Room) (o:Rm.Op) (sv:Value):(turns R o sv).1.length≤200:=by
 unfold turns
 dsimp only
 by_cases k2:o.kind=2
 ·rw [if_pos k2]
  exact Nat.zero_le _
 rw [if_neg k2]
 by_cases k3:o.kind=3
 ·rw [if_pos k3]
  unfold Rm.leave
  dsimp only
  rw [List.length_append]
  have h1:=leave1_len o.peer.toNat R 9
  have h2:=leave2_len o.peer.toNat (Rm.leave1 o.peer.toNat R 9).2 9
  omega
 rw [if_neg k3]
 by_cases k4:o.kind=4
 ·rw [if_pos k4]
  exact Nat.zero_le _
 rw [if_neg k4]
 by_cases k5:o.kind=5
 ·rw [if_pos k5]
  have:=gone_len R o.source.toNat;omega
 rw [if_neg k5]
 by_cases k6:o.kind=6
 ·rw [if_pos k6]
  unfold Rm.begin
  dsimp only
  rw [List.length_cons]
  have:(if (R.src o.source.toNat).muted=true then [(⟨6,o.peer,o.source,0,0⟩:Turn)] else [Rm.asks (R.setSub o.source.toNat o.peer.toNat ⟨true,false,o.layer⟩) o.peer.toNat o.source.toNat]).length=1:=by split <;> rfl
  omega
 rw [if_neg k6]
 by_cases k7:o.kind=7
 ·rw [if_pos k7]
  show 1≤200;decide
 rw [if_neg k7]
 by_cases k8:o.kind=8
 ·rw [if_pos k8]
  have:=mute_le R o.source.toNat true;omega
 rw [if_neg k8]
 by_cases k9:o.kind=9
 ·rw [if_pos k9]
  have:=mute_le R o.source.toNat false;omega
 rw [if_neg k9]
 by_cases k10:o.kind=10
 ·rw [if_pos k10]
  show 1≤200;decide
 rw [if_neg k10]
 by_cases k11:o.kind=11
 ·rw [if_pos k11]
  dsimp only
  rw [List.length_cons]
  exact Nat.le_trans (Nat.succ_le_succ (waits_le _ _ _)) (by decide)
 rw [if_neg k11]
 by_cases k12:o.kind=12
 ·rw [if_pos k12]
  dsimp only
  rw [List.length_cons]
  exact Nat.le_trans (Nat.succ_le_succ (waits_le _ _ _)) (by decide)
 rw [if_neg k12]
 exact Nat.zero_le _
theorem goneAll_len (peer:Int):∀ (l:List Int) (R:Room),(goneAll peer l R).1.1.length≤18*l.length
 | [],R=>Nat.le_refl _
 | x :: l,R=>by
  have ih:=goneAll_len peer l (goneOp R peer x).1.2
  have h1:=goneOp_len R peer x
  unfold goneAll
  show ((goneOp R peer x).1.1++_).length≤_
  rw [List.length_append,List.length_cons]
  omega
theorem itemDo_len (R:Room) (peer:Int) {i:Itm} (hi:ItmOk i):(itemDo R peer i).1.1.length≤3000:=by
 unfold itemDo
 split
 ·exact Nat.zero_le _
 split
 ·exact Nat.zero_le _
 split
 ·have:=goneAll_len peer i.gone R
  have hg:=hi.g
  omega
 ·exact Nat.zero_le _
theorem itemsDo_len (peer:Int):∀ (l:List Itm) (R:Room),(∀ i∈l,ItmOk i)→(itemsDo peer l R).1.1.length≤3000*l.length
 | [],R,hi=>Nat.le_refl _
 | x :: l,R,hi=>by
  have h1:=itemDo_len R peer (hi x (List.mem_cons_self ..))
  have ih:=itemsDo_len peer l (itemDo R peer x).1.2 (fun i h=>hi i (List.mem_cons_of_mem _ h))
  unfold itemsDo
  show ((itemDo R peer x).1.1++_).length≤_
  rw [List.length_append,List.length_cons]
  omega
theorem datagram_len (R:Room) (ep p:Int) (l:List UInt8):(datagram R ep p l).1.1.turns.length≤24000:=by
 unfold datagram
 by_cases h1:(sift l).2≠0
 ·rw [if_pos h1];exact Nat.zero_le _
 rw [if_neg h1]
 by_cases h2:(!joined R p)=true
 ·rw [if_pos h2];exact Nat.zero_le _
 rw [if_neg h2]
 by_cases h3:192≤at8 l 1∧at8 l 1≤223
 ·rw [sift_feed h3 (by omega)]
  have hk:=itemsGet_ok l
  have:=itemsDo_len p (itemsGet l).1 R hk.1
  show (itemsDo p (itemsGet l).1 R).1.1.length≤24000
  omega
 ·obtain ⟨P,d,hp⟩:=sift_media h3 (by omega)
  rw [hp]
  dsimp only
  unfold mediaT
  split <;> exact Nat.zero_le _
theorem take_len (R:Room) (ep:Int) (o:Rm.Op) (l:List UInt8) (sv:Value):(take R ep o l sv).1.1.turns.length≤24000:=by
 unfold take
 split
 ·exact datagram_len _ _ _ _
 split
 ·exact Nat.zero_le _
 ·rename_i h
  show (doo R o sv).1.1.length≤24000
  unfold doo
  split
  ·exact Nat.zero_le _
  ·have:=turns_le R o sv
   exact Nat.le_trans this (by decide)
theorem takenAt_len (L:List OpB) (k:Nat):(takenAt L k).turns.length≤24000:=by
 unfold takenAt
 split
 ·exact Nat.zero_le _
 ·exact take_len _ _ _ _ _
theorem livesTo_len (L:List OpB) (n:Int):∀ k,(livesTo L n k).length≤24000*k
 | 0=>Nat.le_refl _
 | k+1=>by
  have ih:=livesTo_len L n k
  have h1:=livesOf_len n k (takenAt L k).turns (livesTo L n k)
  have h2:=takenAt_len L k
  show (livesOf n k (livesTo L n k) (takenAt L k).turns).length≤_
  omega
def medsTo (L:List OpB) (k:Nat):List (Pkt × Dsc):=(List.range k).map fun j=>((takenAt L j).pkt,(takenAt L j).dsc)
theorem medsTo_succ (L:List OpB) (k:Nat):medsTo L (k+1)=medsTo L k++[((takenAt L k).pkt,(takenAt L k).dsc)]:=by unfold medsTo;rw [List.range_succ,List.map_append];rfl
theorem medsTo_len (L:List OpB) (k:Nat):(medsTo L k).length=k:=by unfold medsTo;rw [List.length_map,List.length_range]
end Go.Proofs.By
namespace Go.Proofs.By
open Go.Proofs.Rm (Turn)
def noOp:Rm.Op:=⟨0,0,0,0,[],[]⟩
def opAt (L:List OpB) (k:Nat):Rm.Op:=match L[k]? with
 | none=>noOp
 | some y=>y.x.o
def opK (L:List OpB) (k:Nat):Int:=if (takenAt L k).adm.kind≠2∨(opAt L k).kind=1 then 0 else (opAt L k).kind
structure VS where
 want:Int
 cur:Int
 paused:Bool
 muted:Bool
deriving DecidableEq
def VS.quiet (s:VS):Bool:=s.paused || s.muted
def lies (x:Life) (at':Int):Bool:=decide (x.bgn<at') && decide (at'<x.fin)
def ownV (s:VS) (k q:Int):VS:=if k=12 then {s with want:=q} else if k=10 then {s with paused:=true,cur:= -1} else if k=11 then {s with paused:=false} else s
def packetAt (L:List OpB) (x:Life) (k:Nat):Bool:=lies x k && decide ((takenAt L k).adm.kind=1) && decide ((takenAt L k).adm.source=x.source)
def opensV (s:VS) (d:Dsc):Bool:= !s.quiet && d.key && d.start && decide (d.layer=s.want) && !decide (d.layer=s.cur)
def mutesV (s:VS) (k:Int):VS:=if k=4∨k=9 then {s with muted:=false} else if k=8 then {s with muted:=true,cur:= -1} else s
def ctrlV (L:List OpB) (x:Life) (s:VS) (k:Nat):VS:=
 if (opAt L k).source=x.source then
  (if (opAt L k).peer=x.peer∧lies x k=true then ownV (mutesV s (opK L k)) (opK L k) (opAt L k).layer else mutesV s (opK L k))
 else s
def nextV (L:List OpB) (x:Life) (s:VS) (k:Nat):VS:=
 if packetAt L x k && opensV s (takenAt L k).dsc then {ctrlV L x s k with cur:=(takenAt L k).dsc.layer} else ctrlV L x s k
def stateV (L:List OpB) (x:Life):Nat→VS
 | 0=>⟨(opAt L x.bgn.toNat).layer,-1,false,false⟩
 | k+1=>nextV L x (stateV L x k) k
def statesV (L:List OpB) (x:Life) (n:Nat):List VS:=(List.range n).map (stateV L x)
theorem statesV_succ (L:List OpB) (x:Life) (n:Nat):statesV L x (n+1)=statesV L x n++[stateV L x n]:=by unfold statesV;rw [List.range_succ,List.map_append];rfl
theorem statesV_len (L:List OpB) (x:Life) (n:Nat):(statesV L x n).length=n:=by unfold statesV;rw [List.length_map,List.length_range]
theorem statesV_at (L:List OpB) (x:Life) {n k:Nat} (h:k<n):(statesV L x n)[k]?=some (stateV L x k):=by unfold statesV;rw [List.getElem?_map,List.getElem?_range h];rfl
def there (x:Life) (at':Int):Bool:=decide (x.bgn<at') && decide (at'≤x.fin)
end Go.Proofs.By
set_option linter.unusedSimpArgs false
namespace Go.Proofs.By
open Go.RowKit Go.Proofs.Heap
theorem owns_lt {base:Nat} {e:TypeId} {size:Nat} {v:Value} {n:Nat} {xs:List Value} {w:World} (h:w.ownsRow base e size v n xs):∀ k,v.ownBlock=some k→k<w.heap.size:=by
 intro k hk
 obtain ⟨_,h⟩:=h
 rcases h with ⟨rfl,_⟩|⟨g,cap,cur,rfl,hg,hh,_⟩
 ·cases hk
 ·have hk:some g=some k:=hk
  cases hk
  exact heap_lt hh
set_option maxRecDepth 100000 in
set_option maxHeartbeats 2000000 in
theorem reportGet_ok (v:Value) (b:List UInt8) (w:World) (hv:BRow w v b) (h0:(right b).2=0) :
  Calls Tryz.prog 170 #[v] w fun e w'=>(∃ a,e = .returned (.tuple #[a,.int .i64 (reportGet b).1.2,.int .i64 (reportGet b).2])∧ItmIn w' a (reportGet b).1.1)∧Below w.heap.size w w':=by
 have HX:Hid (reportGet b=((report b,(right b).1),0)):=by show _=_;unfold reportGet;rw [if_neg (by simp [h0])]
 have C:=fun w1 h=>right_any v b w1 (hv.below (h:Below w.heap.size w w1))
 have HC:=Lib.hid C
 have HV:Hid (∀ w',Below w.heap.size w w'→BRow w' v b):=fun w' h=>hv.below h
 have hb4':=(right_ok h0).1
 obtain ⟨g,off,c,rfl,hcc,hmx,hbl⟩:=b_at hv (by omega)
 clear C hv
 obtain ⟨hb4,hk,h15,-,hlen⟩:=right_ok h0
 generalize reportGet b=X at *
 generalize right b=Y at *
 obtain ⟨Y1,Y2⟩:=Y
 obtain rfl:Y2=0:=h0
 go_enter Tryz.func170,Tryz.ntmps170
 go_wp2_with fail
 refine (HC.out _ (below_alloc _ _)).mono ?_
 rintro e w2 ⟨rfl,hb2⟩
 clear HC
 have y2:=hb2.block w.heap.size Yo11
 rw [heap_new] at y2
 have hz2:w.heap.size+1≤w2.heap.size:=by have h:=hb2.size;have h:(w.heap.push _).size≤w2.heap.size:=h;rw [Array.size_push] at h;exact h
 have Y2H:=Lib.hid y2
 clear y2
 go_wp2_with fail
 have hb3:Below w.heap.size w w2:=(below_alloc w _).trans (hb2.mono Yo21)
 have HEYE:Hid (EyeAt (w2.alloc (.cells #[.slice (some ⟨g,off,none⟩) b.length c,.int .i64 4] 264)).drew w2.heap.size (.slice (some ⟨g,off,none⟩) b.length c) 4):=heap_new _ _
 have HRB3:Hid (RB w (w2.alloc (.cells #[.slice (some ⟨g,off,none⟩) b.length c,.int .i64 4] 264)).drew w2.heap.size (.slice (some ⟨g,off,none⟩) b.length c) 4 Yz1):=
  ⟨(hb3.trans ((below_alloc w2 _).mono hb3.size)).drew,by show (w2.alloc _).heap[w.heap.size]?=_;rw [(below_alloc w2 _).block w.heap.size (by omega)];exact Y2H.out,HEYE.out,by omega⟩
 have KEEP:Hid (∀ w',Below w.heap.size w w'→w'.cell? ⟨g,off+1,none⟩=some (.int .u8 (at8 b 1:Int))∧Below w.heap.size w w'):=fun w' h=>by
  obtain ⟨_,_,_,e,_,_,hc⟩:=b_at (HV.out w' h) (by omega)
  cases e
  exact ⟨hc 1 (by omega),h⟩
 have hbI:(1:Int)<(b.length:Int):=by omega
 have hbN:1<b.length:=by omega
 have hx1:=at8_256 b 1
 have hg4:get b 4 4<4294967296:=get_lt b 4 4 4 (by decide)
 have HW:=Lib.hid (eword_any w2.heap.size _ b 4 _ HEYE.out (HV.out _ (hb3.trans ((below_alloc w2 _).mono hb3.size)).drew) (by omega))
 have hzz:w.heap.size<w2.heap.size:=by omega
 clear hb2
 have HK:=Lib.hid hk
 have HLEN:=Lib.hid hlen
 have H15:=Lib.hid h15
 have HRP:Hid (report b=⟨(at8 b 1:Int),get b 4 4,if at8 b 1=200 then (get b 8 8:Int) else 0,if at8 b 1=200 then (get b 16 4:Int) else 0,if at8 b 1=200 then (get b 20 4:Int) else 0,if at8 b 1=200 then (get b 24 4:Int) else 0,(List.range (at8 b 0 % 32)).map fun (i:Nat)=>blkAt b ((if at8 b 1=200 then 28 else 8)+24*i),[],0,[]⟩):=rfl
 clear hk hlen hb4' h15 hcc hmx
 generalize at8 b 1=kd at *
 have hkw:IntKind.i64.wrap (kd:Int)=(kd:Int):=IntWalk.i64_in _ (by omega)
 refine wp_region_noPanic ?_
 refine wp_region_held_drew (S:=(fun w'=>w'.cell? ⟨g,off+1,none⟩=some (.int .u8 (kd:Int))∧Below w.heap.size w w')) Yo3 ?_ (fun hHeld1=>?_)
 ·(try dsimp only)
  exact KEEP.out _ (hb3.trans ((below_alloc w2 _).mono hb3.size)).drew
 refine YA 0 (h:=YA 1 (h:=YA 2 (h:=YA 3 (h:=YA 4 (h:=?_)))))
 refine wpAnyH_ready (rs:=[5]) Yo3 (by simp) ?_
 refine AllReadyH.cons (i:=5) rfl (fun K hK=>?_) ?_
 ·go_simp
  (refine HW.out.mono ?_;rintro e w4 ⟨rfl,he4,hf4⟩;have HRB4:=Lib.hid (HRB3.out.move he4 hf4);have hb4:Below w.heap.size w w4:=HRB4.out.bel)
  go_wp2_with fail
  refine hK.out _ _ ?_ (fun hHeld2=>?_)
  ·(try dsimp only)
   exact KEEP.out _ hb4
  clear hK K
  try simp only [AnyT.pt]
  refine YA 6 (h:=?_)
  refine YHR 7 (h:=fun K hK=>?_)
  refine step_row (by rfl) 173 (.tmp 2) (.tmp 25) (by rfl) (by rfl) w.heap.size #[.int .i64 (kd:Int),.int .u32 (get b 4 4:Nat),.int .u64 0,.int .u32 0,.int .u32 0,.int .u32 0,.slice none 0 0,.slice none 0 0,.int .u32 0,.slice none 0 0] (by rfl) (by rfl) 173 _ HRB4.out.blk Yo3 Yo3 Yo3 ?_
  have HRB5:=Lib.hid (HRB4.out.row [.int .i64 (kd:Int),.int .u32 (get b 4 4:Nat),.int .u64 0,.int .u32 0,.int .u32 0,.int .u32 0,.slice none 0 0,.slice none 0 0,.int .u32 0,.slice none 0 0])
  refine hK.out _ _ (KEEP.out _ HRB5.out.bel) (fun _=>?_)
  clear hK K
  try simp only [AnyT.pt]
  refine wpAnyH_done Yo3 ?_ _
  refine NoPanic.normal ?_
  have hbe:=HRB5.out.bel
  have z0:(w4.setRow w.heap.size #[.int .i64 (kd:Int),.int .u32 (get b 4 4:Nat),.int .u64 0,.int .u32 0,.int .u32 0,.int .u32 0,.slice none 0 0,.slice none 0 0,.int .u32 0,.slice none 0 0]).cell? ⟨w.heap.size,0,none⟩=some (.int .i64 (kd:Int)):=HRB5.out.cell 0
  have HRB:Hid (RB w (w4.setRow w.heap.size #[.int .i64 (kd:Int),.int .u32 (get b 4 4:Nat),.int .u64 0,.int .u32 0,.int .u32 0,.int .u32 0,.slice none 0 0,.slice none 0 0,.int .u32 0,.slice none 0 0]) w2.heap.size (.slice (some ⟨g,off,none⟩) b.length c) 8 [.int .i64 (kd:Int),.int .u32 (get b 4 4:Nat),.int .u64 0,.int .u32 0,.int .u32 0,.int .u32 0,.slice none 0 0,.slice none 0 0,.int .u32 0,.slice none 0 0]):=HRB5.out
  clear HRB3 HRB4 HRB5 HW HEYE hb4 he4 hf4 hHeld1 hHeld2 KEEP hbI hbN Y2H hb3 hkw
  generalize w4.setRow w.heap.size #[.int .i64 (kd:Int),.int .u32 (get b 4 4:Nat),.int .u64 0,.int .u32 0,.int .u32 0,.int .u32 0,.slice none 0 0,.slice none 0 0,.int .u32 0,.slice none 0 0]=w5 at *
  clear hz2
  clear w4
  generalize w2.heap.size=k at *
  clear w2
  obtain ⟨P0,HP0⟩:∃ P0:Nat,Hid (P0=if kd=200 then 28 else 8):=⟨_,rfl⟩
  obtain ⟨N2,HN2⟩:∃ x:Int,Hid (x=if kd=200 then (get b 8 8:Int) else 0):=⟨_,rfl⟩
  obtain ⟨N3,HN3⟩:∃ x:Int,Hid (x=if kd=200 then (get b 16 4:Int) else 0):=⟨_,rfl⟩
  obtain ⟨N4,HN4⟩:∃ x:Int,Hid (x=if kd=200 then (get b 20 4:Int) else 0):=⟨_,rfl⟩
  obtain ⟨N5,HN5⟩:∃ x:Int,Hid (x=if kd=200 then (get b 24 4:Int) else 0):=⟨_,rfl⟩
  go_upto_if 28 with fail
  go_cut [] (fun wx=>RB w wx k (.slice (some ⟨g,off,none⟩) b.length c) P0 [.int .i64 (kd:Int),.int .u32 (get b 4 4:Nat),.int .u64 N2,.int .u32 N3,.int .u32 N4,.int .u32 N5,.slice none 0 0,.slice none 0 0,.int .u32 0,.slice none 0 0])
  case first=>
   by_cases h200:kd=200
   ·have bk:((kd:Int) == 200)=true:=by rw [beq_iff_eq];omega
    have CG:Hid (Calls Tryz.prog 181 #[.pointer (some ⟨k,0,none⟩),.int .i64 8] w5 fun e w'=>e = .returned (.int .u64 (get b 8 8:Nat))∧RB w w' k (.slice (some ⟨g,off,none⟩) b.length c) 16 [.int .i64 (kd:Int),.int .u32 (get b 4 4:Nat),.int .u64 0,.int .u32 0,.int .u32 0,.int .u32 0,.slice none 0 0,.slice none 0 0,.int .u32 0,.slice none 0 0]∧Fr w5.heap.size (· = k) w5 w'):=HRB.out.get HV.out (by omega) 8 (by omega)
    have hP:P0=28:=by rw [HP0.out,if_pos h200]
    have h2:N2=(get b 8 8:Int):=by rw [HN2.out,if_pos h200]
    have h3:N3=(get b 16 4:Int):=by rw [HN3.out,if_pos h200]
    have h4:N4=(get b 20 4:Int):=by rw [HN4.out,if_pos h200]
    have h5:N5=(get b 24 4:Int):=by rw [HN5.out,if_pos h200]
    subst hP h2 h3 h4 h5
    clear HP0 HN2 HN3 HN4 HN5 h200
    go_wp2_with fail
    refine CG.out.mono ?_
    rintro e w6 ⟨rfl,hrb6,-⟩
    have CW6:Hid (Calls Tryz.prog 180 #[.pointer (some ⟨k,0,none⟩)] w6 fun e w'=>e = .returned (.int .u32 (get b 16 4:Nat))∧RB w w' k (.slice (some ⟨g,off,none⟩) b.length c) 20 [.int .i64 (kd:Int),.int .u32 (get b 4 4:Nat),.int .u64 0,.int .u32 0,.int .u32 0,.int .u32 0,.slice none 0 0,.slice none 0 0,.int .u32 0,.slice none 0 0]∧Fr w6.heap.size (· = k) w6 w'):=hrb6.word HV.out (by omega)
    clear hrb6
    go_wp2_with fail
    refine CW6.out.mono ?_
    rintro e w7 ⟨rfl,hrb7,-⟩
    have CW7:Hid (Calls Tryz.prog 180 #[.pointer (some ⟨k,0,none⟩)] w7 fun e w'=>e = .returned (.int .u32 (get b 20 4:Nat))∧RB w w' k (.slice (some ⟨g,off,none⟩) b.length c) 24 [.int .i64 (kd:Int),.int .u32 (get b 4 4:Nat),.int .u64 0,.int .u32 0,.int .u32 0,.int .u32 0,.slice none 0 0,.slice none 0 0,.int .u32 0,.slice none 0 0]∧Fr w7.heap.size (· = k) w7 w'):=hrb7.word HV.out (by omega)
    clear hrb7
    go_wp2_with fail
    refine CW7.out.mono ?_
    rintro e w8 ⟨rfl,hrb8,-⟩
    have CW8:Hid (Calls Tryz.prog 180 #[.pointer (some ⟨k,0,none⟩)] w8 fun e w'=>e = .returned (.int .u32 (get b 24 4:Nat))∧RB w w' k (.slice (some ⟨g,off,none⟩) b.length c) 28 [.int .i64 (kd:Int),.int .u32 (get b 4 4:Nat),.int .u64 0,.int .u32 0,.int .u32 0,.int .u32 0,.slice none 0 0,.slice none 0 0,.int .u32 0,.slice none 0 0]∧Fr w8.heap.size (· = k) w8 w'):=hrb8.word HV.out (by omega)
    clear hrb8
    go_wp2_with fail
    refine CW8.out.mono ?_
    rintro e w9 ⟨rfl,hrb9,-⟩
    have z2:w9.cell? ⟨w.heap.size,2,none⟩=some (.int .u64 0):=hrb9.cell 2
    have z3:w9.cell? ⟨w.heap.size,3,none⟩=some (.int .u32 0):=hrb9.cell 3
    have z4:w9.cell? ⟨w.heap.size,4,none⟩=some (.int .u32 0):=hrb9.cell 4
    have z5:w9.cell? ⟨w.heap.size,5,none⟩=some (.int .u32 0):=hrb9.cell 5
    have f2:=hrb9.frozen 2
    have f3:=hrb9.frozen 3
    have f4:=hrb9.frozen 4
    have f5:=hrb9.frozen 5
    have HF:=Lib.hid ((((hrb9.set 2 (.int .u64 (get b 8 8:Nat))).set 3 (.int .u32 (get b 16 4:Nat))).set 4 (.int .u32 (get b 20 4:Nat))).set 5 (.int .u32 (get b 24 4:Nat)))
    clear hrb9
    go_wp2_with fail
    go_meet
    exact HF.out
   ·have bk:((kd:Int) == 200)=false:=by rw [beq_eq_false_iff_ne];omega
    have hP:P0=8:=by rw [HP0.out,if_neg h200]
    have h2:N2=0:=by rw [HN2.out,if_neg h200]
    have h3:N3=0:=by rw [HN3.out,if_neg h200]
    have h4:N4=0:=by rw [HN4.out,if_neg h200]
    have h5:N5=0:=by rw [HN5.out,if_neg h200]
    subst hP h2 h3 h4 h5
    clear HP0 HN2 HN3 HN4 HN5 h200
    go_wp2_with fail
    go_meet
    exact HRB.out
  case rest=>
   obtain ⟨W5,rfl⟩:∃ W:World,W=wc:=⟨_,rfl⟩
   obtain ⟨_,_,_,e1,_,_,hc1⟩:=b_at (HV.out _ hcut.bel) (by omega)
   cases e1
   have d0:W5.cell? ⟨g,off,none⟩=some (.int .u8 (at8 b 0:Int)):=hc1 0 (by omega)
   have ha:=and_31 (at8 b 0) (at8_256 b 0)
   have hm15:=H15.out
   have hP28:P0≤28:=by rw [HP0.out];split <;> omega
   have hRP:report b=⟨(kd:Int),get b 4 4,N2,N3,N4,N5,(List.range (at8 b 0 % 32)).map fun (i:Nat)=>blkAt b (P0+24*i),[],0,[]⟩:=by rw [HRP.out,HP0.out,HN2.out,HN3.out,HN4.out,HN5.out]
   have HRP2:=Lib.hid hRP
   have HCUT:=Lib.hid hcut
   clear hc1 hcut HRP HP0 HN2 HN3 HN4 HN5 HRB z0 hbe hRP HK H15 HLEN hbl
   generalize at8 b 0 % 32=m at *
   obtain ⟨BL,hBL⟩:∃ BL:List Blk,BL=(List.range m).map fun (i:Nat)=>blkAt b (P0+24*i):=⟨_,rfl⟩
   have HBLn:Hid (BL.length=m):=by show _=_;rw [hBL];simp
   have HBLs:Hid (∀ j,j<m→BL.take (j+1)=BL.take j++[blkAt b (P0+24*j)]):=fun j hj=>by
    rw [List.take_succ_eq_append_getElem (by rw [HBLn.out];exact hj)]
    simp [hBL]
   rw [←hBL] at HRP2
   clear hBL
   have HR0:Hid (RL w W5 k (.slice (some ⟨g,off,none⟩) b.length c) P0 [.int .i64 (kd:Int),.int .u32 (get b 4 4:Nat),.int .u64 N2,.int .u32 N3,.int .u32 N4,.int .u32 N5,.slice none 0 0,.slice none 0 0,.int .u32 0,.slice none 0 0] (.slice none 0 0) 0 []):=⟨HCUT.out,World.ownsRow_nil _ _ _ _⟩
   clear HCUT
   go_upto_region 9 with fail
   go_loopw [45] (fun i w'=>∃ (j:Nat) (bv:Value),j≤m∧i = .int .u8 (j:Int)∧RL w w' k (.slice (some ⟨g,off,none⟩) b.length c) (P0+24*j) [.int .i64 (kd:Int),.int .u32 (get b 4 4:Nat),.int .u64 N2,.int .u32 N3,.int .u32 N4,.int .u32 N5,bv,.slice none 0 0,.int .u32 0,.slice none 0 0] bv j ((BL.take j).flatMap blkCells)) (fun i _=>m-(intOf i).toNat)
   case atStart=>exact ⟨0,_,Nat.zero_le _,rfl,HR0.out⟩
   case round=>
    clear HR0
    obtain ⟨j,bv0,hj,rfl,hrl⟩:=hrel
    obtain ⟨bva,bvc,hbv0,-,-⟩:=Row.of_owns hrl.own
    subst hbv0
    have HRL:=Lib.hid hrl
    clear hrl
    by_cases hjm:j<m
    ·have HB1:=Lib.hid (HBLs.out j hjm)
     obtain ⟨p,hp⟩:∃ p,p=P0+24*j:=⟨_,rfl⟩
     have hpb:p≤1000:=by omega
     rw [←hp] at HB1 HRL
     obtain ⟨cs,hcs⟩:∃ cs:List Value,cs=[.int .i64 (kd:Int),.int .u32 (get b 4 4:Nat),.int .u64 N2,.int .u32 N3,.int .u32 N4,.int .u32 N5,(.slice bva j bvc),.slice none 0 0,.int .u32 0,.slice none 0 0]:=⟨_,rfl⟩
     obtain ⟨xs,hxs⟩:∃ xs:List Value,xs=(BL.take j).flatMap blkCells:=⟨_,rfl⟩
     rw [←hcs,←hxs] at HRL
     have HCSE:=Lib.hid hcs
     have HXSE:=Lib.hid hxs
     clear hcs hxs
     have HPN:Hid (P0+24*(j+1)=p+24):=by show _=_;rw [hp];omega
     clear hp
     have HBC:Hid (blkCells (blkAt b p)=[.int .u32 (get b (p:Nat) 4:Nat),.int .u8 (get b (p+4:Nat) 1:Nat),.int .u32 (get b (p+5:Nat) 3:Nat),.int .u32 (get b (p+8:Nat) 4:Nat),.int .u32 (get b (p+12:Nat) 4:Nat),.int .u32 (get b (p+16:Nat) 4:Nat),.int .u32 (get b (p+20:Nat) 4:Nat)]):=rfl
     have CS:=fun q (hq:q≤2000) w1 bv xs j cs (h:RL w w1 k (.slice (some ⟨g,off,none⟩) b.length c) q cs bv j xs)=>h.word (b:=b) HV.out (by omega)
     have CG:=fun q (hq:q≤2000) w1 bv xs j cs (h:RL w w1 k (.slice (some ⟨g,off,none⟩) b.length c) q cs bv j xs) r hr=>h.get (b:=b) HV.out (by omega) r hr
     have HCS:=Lib.hid CS
     have HCG:=Lib.hid CG
     clear CS CG
     have x0b:get b (p:Nat) 4<4294967296:=get_lt b _ 4 4 (by decide)
     have x1b:get b (p+4:Nat) 1<256:=get_lt b _ 1 1 (by decide)
     have x2b:get b (p+5:Nat) 3<4294967296:=Nat.lt_of_lt_of_le (get_lt b _ 3 3 (by decide)) (by decide)
     generalize h0:get b (p:Nat) 4=x0 at *
     generalize h1:get b (p+4:Nat) 1=x1 at *
     generalize h2:get b (p+5:Nat) 3=x2 at *
     generalize h3:get b (p+8:Nat) 4=x3 at *
     generalize h4:get b (p+12:Nat) 4=x4 at *
     generalize h5:get b (p+16:Nat) 4=x5 at *
     generalize h6:get b (p+20:Nat) 4=x6 at *
     have HG0:=Lib.hid h0
     have HG1:=Lib.hid h1
     have HG2:=Lib.hid h2
     have HG3:=Lib.hid h3
     have HG4:=Lib.hid h4
     have HG5:=Lib.hid h5
     have HG6:=Lib.hid h6
     clear h0 h1 h2 h3 h4 h5 h6
     have C1:Hid (Calls Tryz.prog 180 #[.pointer (some ⟨k,0,none⟩)] wr fun e w'=>e = .returned (.int .u32 (x0:Nat))∧RL w w' k (.slice (some ⟨g,off,none⟩) b.length c) (p+4) cs (.slice bva j bvc) j xs∧Fr wr.heap.size (· = k) wr w'):=by have:=HCS.out p (by omega) _ _ _ _ _ HRL.out;rw [HG0.out] at this;exact this
     go_wp2_with fail
     refine C1.out.mono ?_
     rintro e v1 ⟨rfl,hr1,-⟩
     have HR1:=Lib.hid hr1
     clear hr1 C1
     have C2:Hid (Calls Tryz.prog 181 #[.pointer (some ⟨k,0,none⟩),.int .i64 1] v1 fun e w'=>e = .returned (.int .u64 (x1:Nat))∧RL w w' k (.slice (some ⟨g,off,none⟩) b.length c) (p+5) cs (.slice bva j bvc) j xs∧Fr v1.heap.size (· = k) v1 w'):=by have:=HCG.out (p+4) (by omega) _ _ _ _ _ HR1.out 1 (by omega);rw [←HG1.out];exact this
     go_wp2_with fail
     refine C2.out.mono ?_
     rintro e v2 ⟨rfl,hr2,-⟩
     have HR2:=Lib.hid hr2
     clear hr2 C2
     have C3:Hid (Calls Tryz.prog 181 #[.pointer (some ⟨k,0,none⟩),.int .i64 3] v2 fun e w'=>e = .returned (.int .u64 (x2:Nat))∧RL w w' k (.slice (some ⟨g,off,none⟩) b.length c) (p+8) cs (.slice bva j bvc) j xs∧Fr v2.heap.size (· = k) v2 w'):=by have:=HCG.out (p+5) (by omega) _ _ _ _ _ HR2.out 3 (by omega);rw [←HG2.out];exact this
     go_wp2_with fail
     refine C3.out.mono ?_
     rintro e v3 ⟨rfl,hr3,-⟩
     have HR3:=Lib.hid hr3
     clear hr3 C3
     have HRA:=Lib.hid (HR3.out.below (below_alloc v3 (.cells #[.int .u32 (x0:Nat),.int .u8 (x1:Nat),.int .u32 (x2:Nat),.int .u32 0,.int .u32 0,.int .u32 0,.int .u32 0] 228)))
     have HBK:Hid ((v3.alloc (.cells #[.int .u32 (x0:Nat),.int .u8 (x1:Nat),.int .u32 (x2:Nat),.int .u32 0,.int .u32 0,.int .u32 0,.int .u32 0] 228)).heap[v3.heap.size]?=some (.cells #[.int .u32 (x0:Nat),.int .u8 (x1:Nat),.int .u32 (x2:Nat),.int .u32 0,.int .u32 0,.int .u32 0,.int .u32 0] 228)):=heap_new _ _
     have hgq:k<v3.heap.size:=HR3.out.rb.klt
     have hwk:w.heap.size<k:=HR3.out.rb.lt
     have HOB:Hid (∀ i,(Value.slice bva j bvc).ownBlock=some i→i≠v3.heap.size):=fun i hi e=>by
      have:=owns_lt HR3.out.own i hi
      omega
     have C4:Hid (Calls Tryz.prog 180 #[.pointer (some ⟨k,0,none⟩)] (v3.alloc (.cells #[.int .u32 (x0:Nat),.int .u8 (x1:Nat),.int .u32 (x2:Nat),.int .u32 0,.int .u32 0,.int .u32 0,.int .u32 0] 228)) fun e w'=>e = .returned (.int .u32 (x3:Nat))∧RL w w' k (.slice (some ⟨g,off,none⟩) b.length c) (p+12) cs (.slice bva j bvc) j xs∧Fr (v3.alloc (.cells #[.int .u32 (x0:Nat),.int .u8 (x1:Nat),.int .u32 (x2:Nat),.int .u32 0,.int .u32 0,.int .u32 0,.int .u32 0] 228)).heap.size (· = k) (v3.alloc (.cells #[.int .u32 (x0:Nat),.int .u8 (x1:Nat),.int .u32 (x2:Nat),.int .u32 0,.int .u32 0,.int .u32 0,.int .u32 0] 228)) w'):=by have:=HCS.out (p+8) (by omega) _ _ _ _ _ HRA.out;rw [←HG3.out];exact this
     go_wp2_with fail
     refine C4.out.mono ?_
     rintro e v4 ⟨rfl,hr4,hf4⟩
     have HK4:=Lib.hid (fr_blk hf4 HBK.out hgq)
     have HR4:=Lib.hid hr4
     clear hr4 hf4 C4 HBK HRA HR3 HR2 HR1
     generalize v3.heap.size=q at *
     clear v3
     have C5:Hid (Calls Tryz.prog 180 #[.pointer (some ⟨k,0,none⟩)] v4 fun e w'=>e = .returned (.int .u32 (x4:Nat))∧RL w w' k (.slice (some ⟨g,off,none⟩) b.length c) (p+16) cs (.slice bva j bvc) j xs∧Fr v4.heap.size (· = k) v4 w'):=by have:=HCS.out (p+12) (by omega) _ _ _ _ _ HR4.out;rw [←HG4.out];exact this
     go_wp2_with fail
     refine C5.out.mono ?_
     rintro e v5 ⟨rfl,hr5,hf5⟩
     have HK5:=Lib.hid (fr_blk hf5 HK4.out hgq)
     have HR5:=Lib.hid hr5
     clear hr5 hf5 C5 HR4 HK4
     have C6:Hid (Calls Tryz.prog 180 #[.pointer (some ⟨k,0,none⟩)] v5 fun e w'=>e = .returned (.int .u32 (x5:Nat))∧RL w w' k (.slice (some ⟨g,off,none⟩) b.length c) (p+20) cs (.slice bva j bvc) j xs∧Fr v5.heap.size (· = k) v5 w'):=by have:=HCS.out (p+16) (by omega) _ _ _ _ _ HR5.out;rw [←HG5.out];exact this
     go_wp2_with fail
     refine C6.out.mono ?_
     rintro e v6 ⟨rfl,hr6,hf6⟩
     have HK6:=Lib.hid (fr_blk hf6 HK5.out hgq)
     have HR6:=Lib.hid hr6
     clear hr6 hf6 C6 HR5 HK5
     have C7:Hid (Calls Tryz.prog 180 #[.pointer (some ⟨k,0,none⟩)] v6 fun e w'=>e = .returned (.int .u32 (x6:Nat))∧RL w w' k (.slice (some ⟨g,off,none⟩) b.length c) (p+24) cs (.slice bva j bvc) j xs∧Fr v6.heap.size (· = k) v6 w'):=by have:=HCS.out (p+20) (by omega) _ _ _ _ _ HR6.out;rw [←HG6.out];exact this
     go_wp2_with fail
     refine C7.out.mono ?_
     rintro e v7 ⟨rfl,hr7,hf7⟩
     have hk7:=fr_blk hf7 HK6.out hgq
     have u3:v7.cell? ⟨q,3,none⟩=some (.int .u32 0):=cell_of hk7 3
     have u4:v7.cell? ⟨q,4,none⟩=some (.int .u32 0):=cell_of hk7 4
     have u5:v7.cell? ⟨q,5,none⟩=some (.int .u32 0):=cell_of hk7 5
     have u6:v7.cell? ⟨q,6,none⟩=some (.int .u32 0):=cell_of hk7 6
     have f3:=frozen_of hk7 3
     have f4:=frozen_of hk7 4
     have f5:=frozen_of hk7 5
     have f6:=frozen_of hk7 6
     have hk8:=blk_set hk7 3 (.int .u32 (x3:Nat))
     have hk9:=blk_set hk8 4 (.int .u32 (x4:Nat))
     have hk10:=blk_set hk9 5 (.int .u32 (x5:Nat))
     have hk11:=blk_set hk10 6 (.int .u32 (x6:Nat))
     have HR11:=Lib.hid ((((hr7.other hk7 (o:=3) hgq HOB.out (.int .u32 (x3:Nat))).other hk8 (o:=4) hgq HOB.out (.int .u32 (x4:Nat))).other hk9 (o:=5) hgq HOB.out (.int .u32 (x5:Nat))).other hk10 (o:=6) hgq HOB.out (.int .u32 (x6:Nat)))
     have HK11:=Lib.hid hk11
     clear hk7 hk8 hk9 hk10 hk11 hr7 hf7 C7 HR6 HK6
     go_upto_region 12 with fail
     clear u3 u4 u5 u6 f3 f4 f5 f6
     generalize (((v7.setCell ⟨q,3,none⟩ (.int .u32 (x3:Nat))).setCell ⟨q,4,none⟩ (.int .u32 (x4:Nat))).setCell ⟨q,5,none⟩ (.int .u32 (x5:Nat))).setCell ⟨q,6,none⟩ (.int .u32 (x6:Nat))=v8 at *
     clear v7
     have c0:v8.cell? ⟨q,0,none⟩=some (.int .u32 (x0:Nat)):=cell_of HK11.out 0
     have c1:v8.cell? ⟨q,1,none⟩=some (.int .u8 (x1:Nat)):=cell_of HK11.out 1
     have c2:v8.cell? ⟨q,2,none⟩=some (.int .u32 (x2:Nat)):=cell_of HK11.out 2
     have c3:v8.cell? ⟨q,3,none⟩=some (.int .u32 (x3:Nat)):=cell_of HK11.out 3
     have c4:v8.cell? ⟨q,4,none⟩=some (.int .u32 (x4:Nat)):=cell_of HK11.out 4
     have c5:v8.cell? ⟨q,5,none⟩=some (.int .u32 (x5:Nat)):=cell_of HK11.out 5
     have c6:v8.cell? ⟨q,6,none⟩=some (.int .u32 (x6:Nat)):=cell_of HK11.out 6
     have cb:v8.cell? ⟨w.heap.size,6,none⟩=some (.slice bva j bvc):=by rw [HR11.out.rb.cell 6,HCSE.out];rfl
     have hk8:k<v8.heap.size:=HR11.out.rb.klt
     go_wp2_with (at_builtin;refine wpList_app rfl (.tmp 69) (.tmp 71) 170 rfl (k+1) elemBlk (.slice bva j bvc) j _ rfl (HR11.out.own.alloc _) _ 1 [.int .u32 (x0:Nat),.int .u8 (x1:Nat),.int .u32 (x2:Nat),.int .u32 (x3:Nat),.int .u32 (x4:Nat),.int .u32 (x5:Nat),.int .u32 (x6:Nat)] rfl (rowNew v8 228 1 [.int .u32 (x0:Nat),.int .u8 (x1:Nat),.int .u32 (x2:Nat),.int .u32 (x3:Nat),.int .u32 (x4:Nat),.int .u32 (x5:Nat),.int .u32 (x6:Nat)] (by decide)) rfl (by intro u hu;simp at hu;rcases hu with rfl|rfl|rfl|rfl|rfl|rfl|rfl <;> rfl) (by omega) (by omega) Yo16 (fun v' w5 HO HG=>?_);have HRB5:=Lib.hid ((HR11.out.below (below_alloc v8 _)).grown HG.out);have f6:=HRB5.out.frozen 6;have c65:w5.cell? ⟨w.heap.size,6,none⟩=some (.slice bva j bvc):=(by rw [HRB5.out.cell 6,HCSE.out];rfl);obtain ⟨va,vc,hva,-,-⟩:=Row.of_owns HO.out;subst hva)
     go_roundw
     case rel=>exact ⟨j+1,_,by omega,by go_num,by rw [HB1.out,HPN.out,List.flatMap_append,←HXSE.out];refine ⟨by have h:=HRB5.out.set 6 (.slice va (j+1) vc);rw [HCSE.out] at h;exact h,owns_set (by have h:=HO.out;rw [←HBC.out] at h;rw [show [blkAt b p].flatMap blkCells=blkCells (blkAt b p) by simp];exact h) (by omega) _⟩⟩
     case measure=>simp [intOf];omega
    ·obtain rfl:j=m:=by omega
     have hrow:=Row.of_owns HRL.out.own
     have y0:=HRL.out.rb.blk
     have z0:=cell_of y0 0
     have z1:=cell_of y0 1
     have z2:=cell_of y0 2
     have z3:=cell_of y0 3
     have z4:=cell_of y0 4
     have z5:=cell_of y0 5
     have z6:=cell_of y0 6
     have z7:=cell_of y0 7
     have z8:=cell_of y0 8
     have z9:=cell_of y0 9
     simp only [List.getElem?_toArray,List.getElem?_cons_zero,List.getElem?_cons_succ] at z0 z1 z2 z3 z4 z5 z6 z7 z8 z9
     have hself:=fun (R:World→Prop) (h:R wr)=>(by rw [setRow_self _ _ _ _ _ y0];exact h:R (wr.setRow w.heap.size #[.int .i64 (kd:Int),.int .u32 (get b 4 4:Nat),.int .u64 N2,.int .u32 N3,.int .u32 N4,.int .u32 N5,(.slice bva j bvc),.slice none 0 0,.int .u32 0,.slice none 0 0]))
     have HS:=Lib.hid hself
     have HROW:=Lib.hid hrow
     have HBEL:=Lib.hid HRL.out.rb.bel
     have HT:Hid (BL.take j=BL):=List.take_of_length_le (by rw [HBLn.out];exact Nat.le_refl _)
     clear hself hrow HRL
     go_wp2_with (with_reducible refine store_at 173 (.tmp 2) (.tmp 75) rfl ?_;go_loud (refine store_rowTo2 rfl 173 (.tmp 2) (.tmp 75) rfl rfl w.heap.size #[.int .i64 (kd:Int),.int .u32 (get b 4 4:Nat),.int .u64 N2,.int .u32 N3,.int .u32 N4,.int .u32 N5,(.slice bva j bvc),.slice none 0 0,.int .u32 0,.slice none 0 0] rfl rfl 173 _ y0 Yo3 Yo3 Yo3 ?_;refine HS.out _ ?_))
     refine bodyPost_ret (v:= .tuple #[.agg #[.int .i64 (kd:Int),.int .u32 (get b 4 4:Nat),.int .u64 N2,.int .u32 N3,.int .u32 N4,.int .u32 N5,(.slice bva j bvc),.slice none 0 0,.int .u32 0,.slice none 0 0],.int .i64 Y1,.int .i64 0]) (by simp [results,Tryz.results170,go_sem,z0,z1,z2,z3,z4,z5,z6,z7,z8,z9]) rfl ⟨⟨_,by rw [HX.out],?_⟩,HBEL.out⟩
     rw [HX.out]
     dsimp only
     rw [HRP2.out]
     refine ⟨.slice bva j bvc,.slice none 0 0,.slice none 0 0,rfl,?_,Row.nil _ _,Row.nil _ _⟩
     have h:=HROW.out
     rw [HT.out] at h
     show Row _ _ _ BL.length _
     rw [HBLn.out]
     exact h
 exact AllReadyH.nil
end Go.Proofs.By
