/- Several texts in one: What the turns of one operation do to the lives: either some end, or one begins. Plain. Of a script's beginning the same is sent, as far as it goes. Plain. What is sent of a script's beginning. Plain. The walk of the reference's SameEmissions: two rows that are alike. Append to a slice of the call's own in a plain region, and where the longer one lies. Over any program. The law RelationFront. -/
import Derived.Test.YtpdjhlcbcomdkaaGreatDoorV02
import Derived.Test.YtpdjhlcbcomdkaaGreatDoorV12
import Derived.Test.YtpdjhlcbcomdkaaGreatDoorV19
import Derived.Test.YtpdjhlcbcomdkaaGreatDoorV21
import Derived.Test.YtpdjhlcbcomdkaaGreatDoorV22
set_option linter.unusedVariables false
set_option linter.unusedSimpArgs false
set_option linter.unusedSimpArgs false
namespace Go.Proofs.By
open Go.Proofs.Rm (Room Turn Inv Slim opens nextS allChk chk key2 doo turns)
theorem inv_bare {R:Room} (h:Inv R):Inv R.bare:=⟨h.none0,h.subAt,h.srcAt,h.apart,h.nameAt,h.keys⟩
theorem slim_bare {R:Room} (h:Slim R):Slim R.bare:=⟨h.short⟩
theorem run_inv (L:List OpB):∀ k,Inv (runTo L k).1∧Slim (runTo L k).1
 | 0=>⟨Rm.inv_empty,Rm.slim_empty⟩
 | k+1=>by
  have ih:=run_inv L k
  cases hy:L[k]? with
  | none=>
   have e:runTo L (k+1)=runTo L k:=by
    conv=>lhs;unfold runTo
    rw [hy]
   rw [e];exact ih
  | some y=>
   rw [(run_at hy).2]
   have h:=take_ok ih.1 ih.2 (runTo L k).2 y.x.o y.b (.slice none 0 0)
   exact ⟨inv_bare h.1,slim_bare h.2.1⟩
def Ends (R R':Room) (ts:List Turn):Prop:=Rm.Good (opens R) ts (opens R')∧∀ t∈ts,t.kind≠1
def Begins (R R':Room) (o:Rm.Op) (ts:List Turn):Prop:=o.kind=6∧(∃ t2:Turn,ts=[⟨1,o.peer,o.source,o.layer,0⟩,t2]∧(t2.kind=6∨t2.kind=9))∧opens R (o.peer,o.source)=false∧opens R'=fun x=>decide (x=(o.peer,o.source)) || opens R x
theorem take_form {R:Room} (hI:Inv R) (hs:Slim R) (ep:Int) (o:Rm.Op) (b:List UInt8) (sv:Value):Ends R (take R ep o b sv).1.2 (take R ep o b sv).1.1.turns∨((take R ep o b sv).1.1.adm.kind=2∧Begins R (take R ep o b sv).1.2 o (take R ep o b sv).1.1.turns):=by
 have still:Ends R R []:=⟨Rm.Good.nil _,fun t h=>by cases h⟩
 by_cases k1:o.kind=1
 ·have e:take R ep o b sv=datagram R ep o.peer b:=by unfold take;rw [if_pos k1]
  rw [e]
  left
  unfold datagram
  by_cases h1:(sift b).2≠0
  ·rw [if_pos h1];exact still
  rw [if_neg h1]
  by_cases h2:(!Rm.joined R o.peer)=true
  ·rw [if_pos h2];exact still
  rw [if_neg h2]
  cases hv:(sift b).1 with
  | none=>exact still
  | media p d=>
   have e2:(mediaT R ep o.peer p d).turns=[]:=by unfold mediaT;split <;> rfl
   show Ends R R (mediaT R ep o.peer p d).turns
   rw [e2]
   exact still
  | feedback l=>
   have hok:=sift_items hv
   exact itemsDo_ends o.peer l R hI hs hok
 ·have e:take R ep o b sv=if (doo R o sv).2≠0 then ((refusedT 6 (doo R o sv).2,R),ep) else ((feedT (ep+1) [] (doo R o sv).1.1 0,(doo R o sv).1.2),ep+1):=by unfold take;rw [if_neg k1]
  rw [e]
  by_cases h1:(doo R o sv).2≠0
  ·rw [if_pos h1];exact Or.inl still
  rw [if_neg h1]
  have hg:=Rm.doo_good hI o sv
  by_cases k6:o.kind=6
  ·right
   have hd:doo R o sv=(turns R o sv,0):=by
    unfold doo at h1 ⊢
    split
    ·next hx=>rw [if_pos hx] at h1;exact absurd hx (by simpa using h1)
    ·rfl
   have ht:turns R o sv=Rm.begin R o:=by
    unfold turns
    dsimp only
    rw [if_neg (by omega),if_neg (by omega),if_neg (by omega),if_neg (by omega),if_pos k6]
   rw [hd,ht] at hg ⊢
   obtain ⟨g1,g2⟩:=hg
   obtain ⟨t2,ht2,hk2⟩:∃ t2:Turn,(Rm.begin R o).1=[⟨1,o.peer,o.source,o.layer,0⟩,t2]∧(t2.kind=6∨t2.kind=9):=by
    unfold Rm.begin
    dsimp only
    split
    ·exact ⟨_,rfl,Or.inl rfl⟩
    ·exact ⟨_,rfl,Or.inr rfl⟩
   dsimp only at g1 g2
   rw [ht2] at g1 g2
   have hS:opens R (o.peer,o.source)=false:=by
    have:=g1.1
    unfold chk at this
    rw [if_pos rfl] at this
    have:=(Bool.and_eq_true _ _ |>.mp this).2
    simpa [key2] using this
   have e2:opens (Rm.begin R o).2=fun x=>decide (x=(o.peer,o.source)) || opens R x:=by
    exact Yx137
   exact ⟨rfl,k6,⟨t2,ht2,hk2⟩,hS,e2⟩
  ·left
   have hb:∀ t∈(doo R o sv).1.1,t.kind≠1:=by
    unfold doo
    split
    ·intro t ht;cases ht
    ·exact turns_kinds R o sv k6
   exact ⟨hg,hb⟩
theorem lives_form (L:List OpB) (n:Int) {k:Nat} (hk:k<L.length) (hn:(k:Int)<n) (hl:LI n (opens (runTo L k).1) (livesTo L n k)) :
  LI n (opens (runTo L (k+1)).1) (livesTo L n (k+1)) ∧
  ((∃ dead,livesTo L n (k+1)=endAll n k dead (livesTo L n k))∨((takenAt L k).adm.kind=2∧(opAt L k).kind=6∧livesTo L n (k+1)=livesTo L n k++[⟨(opAt L k).peer,(opAt L k).source,k,n⟩])):=by
 have hy:L[k]?=some L[k]:=List.getElem?_eq_getElem hk
 obtain ⟨e1,e2⟩:=run_at hy
 have e3:opAt L k=L[k].x.o:=by unfold opAt;rw [hy]
 obtain ⟨hI,hs⟩:=run_inv L k
 have hat:(k:Int)≠n:=by omega
 have hlv:livesTo L n (k+1)=livesOf n k (livesTo L n k) (takenAt L k).turns:=rfl
 have ho:opens (runTo L (k+1)).1=opens (take (runTo L k).1 (runTo L k).2 L[k].x.o L[k].b (.slice none 0 0)).1.2:=by rw [e2];rfl
 rw [ho,hlv,e1,e3]
 rcases take_form hI hs (runTo L k).2 L[k].x.o L[k].b (.slice none 0 0) with ⟨⟨g1,g2⟩,hb⟩|⟨ha,k6,⟨t2,ht,hk2⟩,hS,h2⟩
 ·have h1:=livesOf_ends hat _ _ _ hl g1 hb
  rw [g2] at h1
  exact ⟨h1.2,Or.inl ⟨_,h1.1⟩⟩
 ·rw [ht]
  have e5:livesOf n k (livesTo L n k) [⟨1,L[k].x.o.peer,L[k].x.o.source,L[k].x.o.layer,0⟩,t2]=livesTo L n k++[⟨L[k].x.o.peer,L[k].x.o.source,k,n⟩]:=by
   show lifeTurn n k (lifeTurn n k (livesTo L n k) ⟨1,L[k].x.o.peer,L[k].x.o.source,L[k].x.o.layer,0⟩) t2=_
   have a1:lifeTurn n k (livesTo L n k) ⟨1,L[k].x.o.peer,L[k].x.o.source,L[k].x.o.layer,0⟩=livesTo L n k++[⟨L[k].x.o.peer,L[k].x.o.source,k,n⟩]:=rfl
   rw [a1]
   unfold lifeTurn
   rw [if_neg (by omega),if_neg (by omega)]
  rw [e5,h2]
  exact ⟨hl.begin _ _ _ hS,Or.inr ⟨ha,k6,rfl⟩⟩
theorem lives_inv (L:List OpB):∀ k,k≤L.length→LI L.length (opens (runTo L k).1) (livesTo L L.length k)
 | 0,_=>by
  have e:opens (runTo L 0).1=fun _=>false:=Rm.opens_empty
  rw [e]
  exact LI.nil _
 | k+1,hk=>(lives_form L L.length (by omega) (by omega) (lives_inv L k (by omega))).1
end Go.Proofs.By
set_option linter.unusedSimpArgs false
namespace Go.Proofs.By
open Go.Proofs.Rm (Room Turn)
theorem take_at {L:List OpB} {n k:Nat} (h:k<n):(L.take n)[k]?=L[k]?:=by rw [List.getElem?_take,if_pos h]
theorem run_take {L:List OpB} {n:Nat} (hn:n≤L.length):∀ k,k≤n→runTo (L.take n) k=runTo L k
 | 0,_=>rfl
 | k+1,hk=>by
  have ih:=run_take hn k (by omega)
  have hy:L[k]?=some (L[k]'(by omega)):=List.getElem?_eq_getElem (by omega)
  have hy2:(L.take n)[k]?=some (L[k]'(by omega)):=by rw [take_at (by omega)];exact hy
  rw [(run_at hy).2,(run_at hy2).2,ih]
theorem taken_take {L:List OpB} {n:Nat} (hn:n≤L.length) {k:Nat} (hk:k<n):takenAt (L.take n) k=takenAt L k:=by
 have hy:L[k]?=some (L[k]'(by omega)):=List.getElem?_eq_getElem (by omega)
 have hy2:(L.take n)[k]?=some (L[k]'(by omega)):=by rw [take_at hk];exact hy
 rw [(run_at hy).1,(run_at hy2).1,run_take hn k (by omega)]
theorem opAt_take {L:List OpB} {n k:Nat} (hk:k<n):opAt (L.take n) k=opAt L k:=by unfold opAt;rw [take_at hk]
theorem opK_take {L:List OpB} {n:Nat} (hn:n≤L.length) {k:Nat} (hk:k<n):opK (L.take n) k=opK L k:=by unfold opK;rw [taken_take hn hk,opAt_take hk]
def cutL (N n:Int) (z:Life):Life:=if z.fin=N then {z with fin:=n} else z
theorem cutL_key (N n:Int) (z:Life):(cutL N n z).peer=z.peer∧(cutL N n z).source=z.source∧(cutL N n z).bgn=z.bgn:=by unfold cutL;split <;> exact ⟨rfl,rfl,rfl⟩
theorem endGo_cut {N n at':Int} (hat:at'≠N) (p s:Int) (ls:List Life):∀ k,k≤ls.length→endGo p s at' (ls.map (cutL N n)) k=(endGo p s at' ls k).map (cutL N n)
 | 0,_=>rfl
 | k+1,hk=>by
  have e1:(ls.map (cutL N n)).getD k noLife=cutL N n (ls.getD k noLife):=by
   rw [List.getD_eq_getElem?_getD,List.getD_eq_getElem?_getD,List.getElem?_map,List.getElem?_eq_getElem (show k<ls.length by omega)]
   rfl
  obtain ⟨c1,c2,c3⟩:=cutL_key N n (ls.getD k noLife)
  unfold endGo
  rw [e1,c1,c2]
  by_cases h:(ls.getD k noLife).peer=p∧(ls.getD k noLife).source=s
  ·rw [if_pos h,if_pos h,List.map_set]
   congr 1
   have e2:cutL N n {ls.getD k noLife with fin:=at'}={ls.getD k noLife with fin:=at'}:=if_neg hat
   rw [e2]
   unfold cutL
   split <;> rfl
  ·rw [if_neg h,if_neg h]
   exact endGo_cut hat p s ls k (by omega)
theorem lifeTurn_cut {N n at':Int} (hat:at'≠N) (ls:List Life) (t:Turn):lifeTurn n at' (ls.map (cutL N n)) t=(lifeTurn N at' ls t).map (cutL N n):=by
 unfold lifeTurn
 split
 ·rw [List.map_append]
  congr 1
  have e:cutL N n ⟨t.peer,t.source,at',N⟩=⟨t.peer,t.source,at',n⟩:=if_pos rfl
  rw [List.map_cons,e,List.map_nil]
 split
 ·rw [List.length_map]
  exact endGo_cut hat _ _ _ _ (Nat.le_refl _)
 ·rfl
theorem livesOf_cut {N n at':Int} (hat:at'≠N):∀ (ts:List Turn) (ls:List Life),livesOf n at' (ls.map (cutL N n)) ts=(livesOf N at' ls ts).map (cutL N n)
 | [],_=>rfl
 | t :: ts,ls=>by
  show livesOf n at' (lifeTurn n at' (ls.map (cutL N n)) t) ts=(livesOf N at' (lifeTurn N at' ls t) ts).map (cutL N n)
  rw [lifeTurn_cut hat,livesOf_cut hat ts]
theorem lives_cut {L:List OpB} {n:Nat} (hn:n≤L.length):∀ k,k≤n→livesTo (L.take n) n k=(livesTo L L.length k).map (cutL L.length n)
 | 0,_=>rfl
 | k+1,hk=>by
  show livesOf n k (livesTo (L.take n) n k) (takenAt (L.take n) k).turns=_
  rw [lives_cut hn k (by omega),taken_take hn (by omega),livesOf_cut (by omega)]
  rfl
structure Ext (N:Int) (n:Nat) (ls ls':List Life):Prop where
 len:ls.length≤ls'.length
 old:∀ (i:Nat) (z:Life),ls[i]?=some z→∃ z':Life,ls'[i]?=some z'∧z'.peer=z.peer∧z'.source=z.source∧z'.bgn=z.bgn∧(z'.fin=z.fin∨(z.fin=N∧(n:Int)≤z'.fin))
 new:∀ (i:Nat) (z':Life),ls.length≤i→ls'[i]?=some z'→(n:Int)≤z'.bgn
theorem Ext.refl (N:Int) (n:Nat) (ls:List Life):Ext N n ls ls:=⟨Nat.le_refl _,fun _ z h=>⟨z,h,rfl,rfl,rfl,Or.inl rfl⟩,fun i z' h1 h2=>by rw [List.getElem?_eq_none h1] at h2;cases h2⟩
theorem Ext.ends {N:Int} {n:Nat} {ls ls':List Life} (h:Ext N n ls ls') {at':Int} (ha:(n:Int)≤at') (dead:Int × Int→Bool):Ext N n ls (endAll N at' dead ls'):=by
 have hl:(endAll N at' dead ls').length=ls'.length:=by unfold endAll;rw [List.length_map]
 have hg:∀ i:Nat,(endAll N at' dead ls')[i]?=(ls'[i]?).map fun z=>if z.fin=N∧dead (lkey z)=true then {z with fin:=at'} else z:=fun i=>by unfold endAll;rw [List.getElem?_map]
 refine ⟨by rw [hl];exact h.len,fun i z hz=>?_,fun i z' h1 h2=>?_⟩
 ·obtain ⟨z',h1,h2,h3,h4,h5⟩:=h.old i z hz
  rw [hg,h1]
  by_cases hc:z'.fin=N∧dead (lkey z')=true
  ·refine ⟨{z' with fin:=at'},by simp only [Option.map_some,if_pos hc],h2,h3,h4,?_⟩
   rcases h5 with h5|⟨h5,_⟩
   ·exact Or.inr ⟨by rw [←h5];exact hc.1,ha⟩
   ·exact Or.inr ⟨h5,ha⟩
  ·exact ⟨z',by simp only [Option.map_some,if_neg hc],h2,h3,h4,h5⟩
 ·rw [hg] at h2
  obtain ⟨y,hy,e⟩:=Option.map_eq_some_iff.1 h2
  have hb:=h.new i y h1 hy
  subst e
  split
  ·exact hb
  ·exact hb
theorem Ext.more {N:Int} {n:Nat} {ls ls':List Life} (h:Ext N n ls ls') {x:Life} (hx:(n:Int)≤x.bgn):Ext N n ls (ls'++[x]):=by
 refine ⟨by rw [List.length_append];have:=h.len;omega,fun i z hz=>?_,fun i z' h1 h2=>?_⟩
 ·obtain ⟨z',h1,h2⟩:=h.old i z hz
  exact ⟨z',by rw [List.getElem?_append_left (List.getElem?_eq_some_iff.1 h1).1];exact h1,h2⟩
 ·by_cases hi:i<ls'.length
  ·rw [List.getElem?_append_left hi] at h2;exact h.new i z' h1 h2
  ·rw [List.getElem?_append_right (by omega)] at h2
   have:=List.mem_of_getElem? h2
   rw [List.mem_singleton] at this
   rw [this];exact hx
theorem lives_ext (L:List OpB) {n:Nat}:∀ d,n+d≤L.length→Ext L.length n (livesTo L L.length n) (livesTo L L.length (n+d))
 | 0,_=>Ext.refl _ _ _
 | d+1,hd=>by
  have ih:=lives_ext L (n:=n) d (by omega)
  rcases (lives_form L L.length (k:=n+d) (by omega) (by omega) (lives_inv L _ (by omega))).2 with ⟨dead,h⟩|⟨_,_,h⟩
  ·show Ext _ _ _ (livesTo L L.length (n+d+1))
   rw [h];exact ih.ends (by omega) dead
  ·show Ext _ _ _ (livesTo L L.length (n+d+1))
   rw [h];exact ih.more (by show (n:Int)≤((n+d:Nat):Int);omega)
theorem lives_rise (L:List OpB):∀ k,k≤L.length→(livesTo L L.length k).Pairwise (fun a b=>a.bgn<b.bgn)∧∀ z∈livesTo L L.length k,z.bgn<(k:Int)
 | 0,_=>⟨List.Pairwise.nil,fun z h=>by cases h⟩
 | k+1,hk=>by
  obtain ⟨h1,h2⟩:=lives_rise L k (by omega)
  rcases (lives_form L L.length (k:=k) (by omega) (by omega) (lives_inv L _ (by omega))).2 with ⟨dead,h⟩|⟨_,_,h⟩
  ·rw [h]
   have hb:∀ z:Life,(if z.fin=(L.length:Int)∧dead (lkey z)=true then {z with fin:=(k:Int)} else z).bgn=z.bgn:=fun z=>by split <;> rfl
   unfold endAll
   refine ⟨?_,fun z hz=>?_⟩
   ·rw [List.pairwise_map]
    exact h1.imp fun hab=>by rw [hb,hb];exact hab
   ·obtain ⟨y,hy,rfl⟩:=List.mem_map.1 hz
    rw [hb];have:=h2 y hy;omega
  ·rw [h]
   refine ⟨List.pairwise_append.2 ⟨h1,List.pairwise_singleton _ _,fun a ha b hb=>?_⟩,fun z hz=>?_⟩
   ·rw [List.mem_singleton] at hb;subst hb;exact h2 a ha
   ·rcases List.mem_append.1 hz with h3|h3
    ·have:=h2 z h3;omega
    ·rw [List.mem_singleton] at h3;subst h3;show (k:Int)<((k+1:Nat):Int);omega
end Go.Proofs.By
set_option linter.unusedSimpArgs false
namespace Go.Proofs.By
structure Agree (n:Nat) (x z:Life):Prop where
 peer:x.peer=z.peer
 source:x.source=z.source
 bgn:x.bgn=z.bgn
 lies:∀ k:Nat,k<n→lies x k=lies z k
section
variable {L:List OpB} {n:Nat} {x z:Life}
theorem packet_take (hn:n≤L.length) (h:Agree n x z) {k:Nat} (hk:k<n):packetAt (L.take n) x k=packetAt L z k:=by
 unfold packetAt
 rw [h.lies k hk,taken_take hn hk,h.source]
theorem ctrl_take (hn:n≤L.length) (h:Agree n x z) (s:VS) {k:Nat} (hk:k<n):ctrlV (L.take n) x s k=ctrlV L z s k:=by
 unfold ctrlV
 rw [opAt_take hk,opK_take hn hk,h.source,h.peer,h.lies k hk]
theorem state_take (hn:n≤L.length) (h:Agree n x z) (h0:0≤x.bgn) (h1:x.bgn<n):∀ k,k≤n→stateV (L.take n) x k=stateV L z k
 | 0,_=>by
  show (⟨(opAt (L.take n) x.bgn.toNat).layer,-1,false,false⟩:VS)=⟨(opAt L z.bgn.toNat).layer,-1,false,false⟩
  rw [opAt_take (by omega),h.bgn]
 | k+1,hk=>by
  show nextV (L.take n) x (stateV (L.take n) x k) k=nextV L z (stateV L z k) k
  rw [state_take hn h h0 h1 k (by omega)]
  unfold nextV
  rw [packet_take hn h (by omega),taken_take hn (by omega),ctrl_take hn h _ (by omega)]
theorem lastE_lt {k:Nat} {s:Snd} (h:SndOk k s) (hk:0<k):(lastE s.out).event.toNat<k:=by
 unfold lastE
 by_cases hl:s.out.length=0
 ·have:s.out=[]:=List.eq_nil_of_length_eq_zero hl
  rw [this]
  exact hk
 ·have hm:s.out.getD (s.out.length-1) noEmi∈s.out:=by
   rw [List.getD_eq_getElem?_getD,List.getElem?_eq_getElem (by omega)]
   exact List.getElem_mem _
  have:=h.ev _ hm
  omega
theorem goes_take (hn:n≤L.length) (s:VS) {k:Nat} (hk:k<n) {r:Snd} (h:SndOk k r):goesV (L.take n) s r.out k=goesV L s r.out k:=by
 have hl:(lastE r.out).event.toNat<n:=by
  by_cases h0:0<k
  ·have:=lastE_lt h h0;omega
  ·have hlen:=h.len
   have:r.out=[]:=List.eq_nil_of_length_eq_zero (by omega)
   rw [this]
   show (0:Int).toNat<n
   omega
 unfold goesV
 rw [taken_take hn hk,taken_take hn hl]
theorem step_take (hn:n≤L.length) (h:Agree n x z) (s:VS) {k:Nat} (hk:k<n) {r:Snd} (hr:SndOk k r):sentStep (L.take n) x s r k=sentStep L z s r k:=by
 have hrd:=(ready_ok hr (opensV s (takenAt L k).dsc) (takenAt L k).dsc.start).1
 have hop:(readyV r k (opensV s (takenAt L k).dsc) (takenAt L k).dsc.start).opn.toNat<n:=by omega
 unfold sentStep
 rw [packet_take hn h hk,taken_take hn hk,goes_take hn s hk hr]
 have e:sendV (L.take n) x s r k=sendV L z s r k:=by
  unfold sendV emiV
  dsimp only
  rw [taken_take hn hk,taken_take hn hop,h.peer,h.source]
 rw [e]
theorem sent_take (hn:n≤L.length) (h:Agree n x z) (h0:0≤x.bgn) (h1:x.bgn<n):∀ k,k≤n→sentTo (L.take n) x k=sentTo L z k
 | 0,_=>rfl
 | k+1,hk=>by
  show sentStep (L.take n) x (stateV (L.take n) x k) (sentTo (L.take n) x k) k=sentStep L z (stateV L z k) (sentTo L z k) k
  rw [sent_take hn h h0 h1 k (by omega),state_take hn h h0 h1 k (by omega),step_take hn h _ (by omega) (sentTo_ok L z k)]
end
theorem sent_more (L:List OpB) (z:Life) (n:Nat):∀ d,∃ r,(sentTo L z (n+d)).out=(sentTo L z n).out++r∧∀ e∈r,(n:Int)≤e.event
 | 0=>⟨[],(List.append_nil _).symm,fun e h=>by cases h⟩
 | d+1=>by
  obtain ⟨r,h1,h2⟩:=sent_more L z n d
  show ∃ r,(sentStep L z (stateV L z (n+d)) (sentTo L z (n+d)) (n+d)).out=_∧_
  unfold sentStep
  split
  ·unfold sendV
   dsimp only
   refine ⟨r++[emiV L z (readyV (sentTo L z (n+d)) (n+d) (opensV (stateV L z (n+d)) (takenAt L (n+d)).dsc) (takenAt L (n+d)).dsc.start) (n+d) (opensV (stateV L z (n+d)) (takenAt L (n+d)).dsc)],?_,fun e he=>?_⟩
   ·rw [←List.append_assoc,←h1]
    rfl
   ·rcases List.mem_append.1 he with h3|h3
    ·exact h2 e h3
    ·rw [List.mem_singleton] at h3;subst h3;show (n:Int)≤((n+d:Nat):Int);omega
  ·exact ⟨r,h1,h2⟩
theorem sent_filter {L:List OpB} (z:Life) {n:Nat} (hn:n≤L.length):(sentTo L z L.length).out.filter (fun e:Emi=>decide (e.event<(n:Int)))=(sentTo L z n).out:=by
 obtain ⟨r,h1,h2⟩:=sent_more L z n (L.length-n)
 rw [show n+(L.length-n)=L.length by omega] at h1
 rw [h1,List.filter_append]
 have e1:(sentTo L z n).out.filter (fun e:Emi=>decide (e.event<(n:Int)))=(sentTo L z n).out:=List.filter_eq_self.2 fun e he=>decide_eq_true ((sentTo_ok L z n).ev e he).2
 have e2:r.filter (fun e:Emi=>decide (e.event<(n:Int)))=[]:=List.filter_eq_nil_iff.2 fun e he=>by have:=h2 e he;rw [decide_eq_false (by omega)];decide
 rw [e1,e2,List.append_nil]
def wantF (L:List OpB) (n:Nat) (x:Life) (l:List Life):List Emi:=l.flatMap fun z=>if z.bgn=x.bgn then (sentOf L z).filter (fun e:Emi=>decide (e.event<(n:Int))) else []
theorem flat_single {α β:Type} (f:α→List β):∀ (l:List α) (i:Nat) (z:α),l[i]?=some z→(∀ j y,j≠i→l[j]?=some y→f y=[])→l.flatMap f=f z
 | [],i,z,h,_=>by cases h
 | y :: l,0,z,h,hf=>by
  have h:y=z:=Option.some.inj h
  rw [List.flatMap_cons,h]
  have:l.flatMap f=[]:=List.flatMap_eq_nil_iff.2 fun u hu=>by
   obtain ⟨j,hj,e⟩:=List.mem_iff_getElem.1 hu
   exact hf (j+1) u (by omega) (by rw [List.getElem?_cons_succ,List.getElem?_eq_getElem hj,e])
  rw [this,List.append_nil]
 | y :: l,i+1,z,h,hf=>by
  rw [List.flatMap_cons,hf 0 y (by omega) rfl,List.nil_append]
  exact flat_single f l i z h fun j u hj hu=>hf (j+1) u (by omega) hu
theorem livesTo_ok' {L:List OpB} {n:Nat} {x:Life} (hx:x∈livesTo (L.take n) n n):0≤x.bgn∧x.bgn<n:=by
 have:=livesTo_ok (L.take n) n n (Nat.le_refl _) x hx
 exact ⟨this.1,this.2.1⟩
theorem front_law {L:List OpB} {n:Nat} (hn:n≤L.length) {x:Life} (hx:x∈livesTo (L.take n) n n):wantF L n x (livesTo L L.length L.length)=sentOf (L.take n) x:=by
 have hlen:(L.take n).length=n:=by rw [List.length_take];omega
 have hsx:sentOf (L.take n) x=(sentTo (L.take n) x n).out:=by unfold sentOf;rw [hlen,if_pos hx]
 have hok:=livesTo_ok' hx
 rw [lives_cut hn n (Nat.le_refl _)] at hx
 obtain ⟨i,hi,hxi⟩:=List.mem_iff_getElem.1 hx
 rw [List.length_map] at hi
 rw [List.getElem_map] at hxi
 have hz:(livesTo L L.length n)[i]?=some (livesTo L L.length n)[i]:=List.getElem?_eq_getElem hi
 have hext:=lives_ext L (n:=n) (L.length-n) (by omega)
 rw [show n+(L.length-n)=L.length by omega] at hext
 obtain ⟨z,h1,h2,h3,h4,h5⟩:=hext.old i _ hz
 generalize (livesTo L L.length n)[i]=y at *
 obtain ⟨c1,c2,c3⟩:=cutL_key L.length n y
 have hfx:x.fin=if y.fin=(L.length:Int) then (n:Int) else y.fin:=by rw [←hxi];unfold cutL;split <;> rfl
 have hxp:x.peer=y.peer:=by rw [←hxi];exact c1
 have hxs:x.source=y.source:=by rw [←hxi];exact c2
 have hxb:x.bgn=y.bgn:=by rw [←hxi];exact c3
 have hag:Agree n x z:=⟨by rw [hxp,h2],by rw [hxs,h3],by rw [hxb,h4],fun k hk=>by
  unfold lies
  rw [hxb,h4,hfx]
  congr 1
  rw [Bool.eq_iff_iff,decide_eq_true_eq,decide_eq_true_eq]
  by_cases hy:y.fin=(L.length:Int)
  ·rw [if_pos hy]
   rcases h5 with h5|⟨_,h5⟩ <;> omega
  ·rw [if_neg hy]
   rcases h5 with h5|⟨h5,_⟩
   ·rw [h5]
   ·exact absurd h5 hy⟩
 have hzm:z∈livesTo L L.length L.length:=List.mem_of_getElem? h1
 have hsz:sentOf L z=(sentTo L z L.length).out:=by unfold sentOf;rw [if_pos hzm]
 unfold wantF
 rw [flat_single _ _ i z h1 (fun j u hj hu=>?_)]
 ·rw [if_pos hag.bgn.symm,hsz,sent_filter z hn,hsx,sent_take hn hag hok.1 hok.2 n (Nat.le_refl _)]
 ·rw [if_neg]
  intro e
  have hp:=(lives_rise L L.length (Nat.le_refl _)).1
  obtain ⟨hjl,hju⟩:=List.getElem?_eq_some_iff.1 hu
  obtain ⟨hil,hiz⟩:=List.getElem?_eq_some_iff.1 h1
  rw [hag.bgn] at e
  rw [List.pairwise_iff_getElem] at hp
  rcases Nat.lt_or_ge j i with hlt|hge
  ·have:=hp j i hjl hil hlt
   rw [hju,hiz] at this;omega
  ·have:=hp i j hil hjl (by omega)
   rw [hju,hiz] at this;omega
end Go.Proofs.By
set_option linter.unusedSimpArgs false
namespace Go.Proofs.By
open Go.RowKit Go.Proofs.Heap Go.Proofs
open Go.Proofs.Rm (below_drewN)
theorem emi_cells {w:World} {a:Option Addr} {n c:Nat} {l:List Emi} (h:Row w 70 (.slice a n c) n (l.flatMap emiCells)) {j:Nat} {z:Emi} (hz:l[j]?=some z):∃ g o,a=some ⟨g,o,none⟩∧w.rangeAt g (o+j*6) (emiCells z):=by
 exact Yx70
set_option maxHeartbeats 2000000 in
theorem SameEm_any (a b:Value) (l:List Emi) (w:World) (ha:Row w 70 a l.length (l.flatMap emiCells)) (hb:Row w 70 b l.length (l.flatMap emiCells)) (hl:l.length≤100000) :
  Calls Tryz.prog 28 #[a,b] w fun e w'=>e = .returned (.bool true)∧Below w.heap.size w w':=by
 obtain ⟨aa,ac,rfl⟩:=Row.form ha
 obtain ⟨ba,bc,rfl⟩:=Row.form hb
 have HA:=Lib.hid ha
 have HB:=Lib.hid hb
 clear ha hb
 go_enter Tryz.func28,Tryz.ntmps28
 go_wp2_with fail
 go_loopw [13] (fun s13 w'=>∃ j:Nat,j≤l.length∧s13 = .int .i64 (j:Int)∧Below w.heap.size w w') (fun s13 _=>l.length-(intOf s13).toNat)
 case atStart=>exact ⟨0,by omega,rfl,Below.refl _ _⟩
 case round=>
  obtain ⟨j,hj,rfl,hbel⟩:=hrel
  have HBL:=Lib.hid hbel
  by_cases hjl:j<l.length
  ·have hz:l[j]?=some l[j]:=List.getElem?_eq_getElem hjl
   obtain ⟨ga,oa,ea,ra⟩:=emi_cells (HA.out.below hbel) hz
   obtain ⟨gb,ob,eb,rb⟩:=emi_cells (HB.out.below hbel) hz
   subst ea
   subst eb
   generalize l[j]=z at *
   obtain ⟨z1,z2,z3,z4,z5,z6⟩:=z
   have x0:=ra 0 _ rfl
   have x1:=ra 1 _ rfl
   have x2:=ra 2 _ rfl
   have x3:=ra 3 _ rfl
   have x4:=ra 4 _ rfl
   have x5:=ra 5 _ rfl
   have y0:=rb 0 _ rfl
   have y1:=rb 1 _ rfl
   have y2:=rb 2 _ rfl
   have y3:=rb 3 _ rfl
   have y4:=rb 4 _ rfl
   have y5:=rb 5 _ rfl
   rw [Nat.add_zero] at x0 y0
   have hjI:(j:Int)<(l.length:Int):=Int.ofNat_lt.2 hjl
   clear ra rb hz hbel
   go_wp2_with fail
   go_quiet (fail)
   have HB9:=Lib.hid (below_drewN HBL.out nq)
   go_wp2_with fail
   go_roundw
   case rel=>exact ⟨j+1,by omega,by go_num,HB9.out⟩
   case measure=>simp [intOf];omega
  ·have hjj:j=l.length:=by omega
   clear hbel
   subst hjj
   go_wp2
   go_ret
   exact ⟨rfl,HBL.out⟩
end Go.Proofs.By
namespace Go.Proofs.Heap
open Go Go.RowKit
section
variable {P:Program}
theorem wpList_appW {ops:Array Oper} {rest:List Oper} {o:Oper} {a:Act} {w:World} {Q:Exit→Act→World→Prop} (hgd:o.guard=none) (s x:Operand) (t:TypeId)
  (ho:o.op = .call {callee:= .builtin .append,args:=#[s,x],argTypes:=#[t,t]})
  (base:Nat) {e:TypeId} {size bytes:Nat} (E:Elem P t e size bytes)
  (v:Value) (n:Nat) (xs:List Value) (hs:a.eval s=v) (hown:w.ownsRow base e size v n xs)
  (b m c:Nat) (news:List Value) (hx:a.eval x = .slice (some ⟨b,0,none⟩) m c) (hrow:Row w e (.slice (some ⟨b,0,none⟩) m c) m news) (hl:news.length=m*size) (h1:∀ u∈news,u.oneCell'=true) (hm:0<m)
  (hbytes:(n+m)*bytes≤140737488355328) (h63:n+m≤9223372036854775807) (hbase:base≤w.heap.size)
  (h:∀ v' w',Hid (w'.ownsRow base e size v' (n+m) (xs++news))→Hid (w.grownBy w' v.ownBlock)→Hid (∀ i,v'.ownBlock=some i→v.ownBlock=some i∨i=w.heap.size)→wpList P ops Q rest (a.put o.dst v') w'):wpList P ops Q (o :: rest) a w:=
 wpList_plain hgd fun _ hK=>by
  obtain ⟨v',w',hrun,h2,h3,h4⟩:=run_appW (P:=P) t o.type base E v n xs hown b m c news hrow hl h1 hm hbytes h63 hbase
  unfold Oper.wp
  simp [execOp,ho,resolve,invoke,builtin,hs,hx,hrun,Result.andThen]
  exact hK _ _ (h v' w' h2 h3 h4)
end
end Go.Proofs.Heap
set_option linter.unusedSimpArgs false
namespace Go.Proofs.By
open Go.RowKit Go.Proofs.Heap Go.Proofs
open Go.Proofs.Rm (below_drewN own_le)
open Go.Proofs.Lab (Tabs)
open Go.Proofs.Mem
/-- What is wanted so far,in a row of the call's own,and the life that is looked at. -/
structure FW (w w':World) (uv:Value) (acc:List Emi) (K:Nat) (xc:List Value):Prop where
  bel:Below w.heap.size w w'
  own:w'.ownsRow w.heap.size 70 6 uv acc.length (acc.flatMap emiCells)
  blk:w'.heap[K]?=some (.cells xc.toArray 59 (0,0))
section
variable {w w1 w2:World} {uv:Value} {acc:List Emi} {K:Nat} {xc:List Value}
theorem FW.below (h:FW w w1 uv acc K xc) (hb:Below w1.heap.size w1 w2):FW w w2 uv acc K xc:=⟨h.bel.trans (hb.mono h.bel.size),owns_bel h.own hb,(hb.block _ (hp_lt h.blk)).trans h.blk⟩
theorem FW.grow (h:FW w w1 uv acc K xc) (hg:w1.grownBy w2 uv.ownBlock) {uv':Value} {acc':List Emi} (ho:w2.ownsRow w.heap.size 70 6 uv' acc'.length (acc'.flatMap emiCells)):FW w w2 uv' acc' K xc:=
  ⟨((Fr.of_below NoB h.bel).grown hg h.bel.size (own_le h.own)).below,ho,(hg.block _ (hp_lt h.blk) (fun e=>owns_typ h.own (by decide) _ _ _ e.symm h.blk)).trans h.blk⟩
end
/-- The same,and the packets of another life,in a row of their own. -/
structure FL (w w':World) (uv:Value) (acc:List Emi) (K:Nat) (xc:List Value) (B:Nat) (ev:Value) (E:List Emi):Prop where
  fw:FW w w' uv acc K xc
  row:w'.ownsRow B 70 6 ev E.length (E.flatMap emiCells)
  ne:∀ i,uv.ownBlock=some i→ev.ownBlock=some i→False
section
variable {w w1 w2:World} {uv:Value} {acc:List Emi} {K:Nat} {xc:List Value} {B:Nat} {ev:Value} {E:List Emi}
theorem FL.below (h:FL w w1 uv acc K xc B ev E) (hb:Below w1.heap.size w1 w2):FL w w2 uv acc K xc B ev E:=⟨h.fw.below hb,owns_bel h.row hb,h.ne⟩
theorem FL.grow (h:FL w w1 uv acc K xc B ev E) (hg:w1.grownBy w2 uv.ownBlock) {uv':Value} {acc':List Emi} (ho:w2.ownsRow w.heap.size 70 6 uv' acc'.length (acc'.flatMap emiCells)) (hw:∀ i,uv'.ownBlock=some i→uv.ownBlock=some i∨i=w1.heap.size):FL w w2 uv' acc' K xc B ev E:=
  ⟨h.fw.grow hg ho,owns_block h.row (fun i hi=>hg.block i (owns_ltV h.row hi) (fun e=>h.ne i e.symm hi)),fun i h1 h2=>by
    rcases hw i h1 with h3|h3
    · exact h.ne i h3 h2
    · exact absurd (owns_ltV h.row h2) (by omega)⟩
theorem FL.of (h:FW w w1 uv acc K xc) (hb:Below w1.heap.size w1 w2) (ho:w2.ownsRow w1.heap.size 70 6 ev E.length (E.flatMap emiCells)):FL w w2 uv acc K xc w1.heap.size ev E:=
  ⟨h.below hb,ho,fun i h1 h2=>by
    have h3:=owns_ltV h.own h1
    rcases ho.2 with ⟨rfl,-⟩|⟨g,cap,cur,rfl,hg,-⟩
    · cases h2
    · have h4:g=i:=Option.some.inj h2
      omega⟩
end
theorem emi_range {w:World} {a:Option Addr} {n c:Nat} {l:List Emi} (h:Row w 70 (.slice a n c) n (l.flatMap emiCells)) {j:Nat} {z:Emi} (hz:l[j]?=some z):∃ g o,a=some ⟨g,o,none⟩∧w.rangeAt g (o+j*6) (emiCells z):=by
  have hl:j<l.length:=(List.getElem?_eq_some_iff.1 hz).1
  obtain ⟨g,o,e,h2⟩:=row_atB emiCells 6 (fun _=>rfl) h (by omega)
  exact ⟨g,o,e,fun m v hm=>(h2 j z hz m (by have h:=(List.getElem?_eq_some_iff.1 hm).1;simpa [emiCells] using h)).trans hm⟩
theorem life_range {w:World} {a:Option Addr} {n c:Nat} {l:List Life} (h:Row w 59 (.slice a n c) n (l.flatMap lifeCells)) {j:Nat} {z:Life} (hz:l[j]?=some z):∃ g o,a=some ⟨g,o,none⟩∧w.rangeAt g (o+j*4) (lifeCells z):=by
  have hl:j<l.length:=(List.getElem?_eq_some_iff.1 hz).1
  obtain ⟨g,o,e,h2⟩:=row_atB lifeCells 4 (fun _=>rfl) h (by omega)
  exact ⟨g,o,e,fun m v hm=>(h2 j z hz m (by have h:=(List.getElem?_eq_some_iff.1 hm).1;simpa [lifeCells] using h)).trans hm⟩
theorem wantF_snoc (L:List OpB) (n:Nat) (x z:Life) (l:List Life):wantF L n x (l++[z])=wantF L n x l++if z.bgn=x.bgn then (sentOf L z).filter (fun e:Emi=>decide (e.event<(n:Int))) else []:=by
  unfold wantF
  rw [List.flatMap_append,List.flatMap_cons,List.flatMap_nil,List.append_nil]
theorem sentOf_len (L:List OpB) (z:Life):(sentOf L z).length≤L.length:=by
  unfold sentOf
  split
  · exact (sentTo_ok L z L.length).len
  · exact Nat.zero_le _
theorem wantF_len (L:List OpB) (n:Nat) (x:Life):∀ l:List Life,(wantF L n x l).length≤l.length*L.length
  | []=>Nat.zero_le _
  | z :: l=>by
    have ih:=wantF_len L n x l
    unfold wantF at ih ⊢
    rw [List.flatMap_cons,List.length_append,List.length_cons,Nat.succ_mul]
    have:(if z.bgn=x.bgn then (sentOf L z).filter (fun e:Emi=>decide (e.event<(n:Int))) else []).length≤L.length:=by
      split
      · exact Nat.le_trans (List.length_filter_le _ _) (sentOf_len L z)
      · exact Nat.zero_le _
    omega
set_option maxRecDepth 100000 in
set_option maxHeartbeats 16000000 in
theorem RelationFront_any (v:Value) (L0:List OpB) (n:Int) (w:World) (hT:Tabs w) (hv:OpBsR w v L0):Calls Tryz.prog 9 #[v,.int .i64 n] w fun e w'=>e = .returned (.bool true)∧Below w.heap.size w w':=by
  have CS:=Lib.hid (shown21_any w hT)
  have CF:=Lib.hid (fun (w':World) (h:Below w.heap.size w w')=>few21_any v L0 w' (hv.below h))
  have HT:Hid (∀ w',Below w.heap.size w w'→Tabs w'):=fun w' h=>Utf8Tabs_below hT h
  have hL:(L0.take 60).length≤60:=by rw [List.length_take];omega
  generalize L0.take 60=L at *
  clear hT hv
  by_cases hn0:n<0
  · have d0:decide (n<0)=true:=decide_eq_true hn0
    go_enter Tryz.func9,Tryz.ntmps9
    go_wp2_with (first|(go_at_call 25;refine CS.out.mono ?_;rintro e w1 ⟨rfl,hb1⟩;have HB1:=Lib.hid hb1;clear hb1)|(go_at_call 26;refine (CF.out _ HB1.out).mono ?_;rintro e w' ⟨⟨v',rfl,ho⟩,rfl⟩;obtain ⟨va,vc,hv',hvc,hmx⟩:=OpBsR.form ho;subst hv';have HO:=Lib.hid ho;clear ho))
    go_ret
    exact ⟨rfl,HB1.out⟩
  have d0:decide (n<0)=false:=decide_eq_false hn0
  by_cases hn1:(L.length:Int)<n
  · have d1:decide ((L.length:Int)<n)=true:=decide_eq_true hn1
    go_enter Tryz.func9,Tryz.ntmps9
    go_wp2_with (first|(go_at_call 25;refine CS.out.mono ?_;rintro e w1 ⟨rfl,hb1⟩;have HB1:=Lib.hid hb1;clear hb1)|(go_at_call 26;refine (CF.out _ HB1.out).mono ?_;rintro e w' ⟨⟨v',rfl,ho⟩,rfl⟩;obtain ⟨va,vc,hv',hvc,hmx⟩:=OpBsR.form ho;subst hv';have HO:=Lib.hid ho;clear ho))
    go_ret
    exact ⟨rfl,HB1.out⟩
  have d1:decide ((L.length:Int)<n)=false:=decide_eq_false hn1
  obtain ⟨m,rfl⟩:∃ m:Nat,n=(m:Int):=⟨n.toNat,by omega⟩
  have hm:m≤L.length:=by omega
  have d2:decide (L.length<m)=false:=decide_eq_false (by omega)
  clear hn0 hn1
  have CL:=Lib.hid (fun (v':Value) (w':World) (hT:Tabs w') (h:OpBsR w' v' L)=>RLives_any v' L w' hT h (by omega))
  have CM:=Lib.hid (fun (v':Value) (w':World) (hT:Tabs w') (h:OpBsR w' v' (L.take m))=>RLives_any v' (L.take m) w' hT h (by rw [List.length_take];omega))
  have hlm:(L.take m).length=m:=by rw [List.length_take];omega
  rw [hlm] at CM
  have HLAW:=Lib.hid (fun (x:Life) (hx:x∈livesTo (L.take m) m m)=>front_law hm hx)
  have HLEN:=Lib.hid (fun (x:Life) (l:List Life)=>wantF_len L m x l)
  have HLL:=Lib.hid (livesTo_len L L.length L.length)
  go_enter Tryz.func9,Tryz.ntmps9
  go_upto_region 7 with (first|(go_at_call 25;refine CS.out.mono ?_;rintro e w1 ⟨rfl,hb1⟩;have HB1:=Lib.hid hb1;clear hb1)|(go_at_call 26;refine (CF.out _ HB1.out).mono ?_;rintro e w' ⟨⟨v',rfl,ho⟩,rfl⟩;obtain ⟨va,vc,hv',hvc,hmx⟩:=OpBsR.form ho;subst hv';have HO:=Lib.hid ho;clear ho)|(go_at_call 27;refine (CL.out _ _ (HT.out _ HB1.out) HO.out).mono ?_;rintro e w3 ⟨⟨lv,rfl,hl⟩,hb3⟩;obtain ⟨la,lc,hlv⟩:=Row.form hl;subst hlv;have HLV:=Lib.hid hl;have HB3:=Lib.hid (HB1.out.trans (hb3.mono HB1.out.size));have HO3:=Lib.hid (HO.out.below hb3);clear hl hb3))
  obtain ⟨vs,hsl,-,hslR⟩:=slice_to (P:=Tryz.prog) elemOp va L.length vc m (by omega)
  have HOM:=Lib.hid (OpBsR.take HO3.out hm hslR)
  clear hslR
  go_wp2_with (go_at_call 27;refine (CM.out _ _ (HT.out _ HB3.out) HOM.out).mono ?_;rintro e w4 ⟨⟨mv,rfl,hl⟩,hb4⟩;obtain ⟨ma,mc,hmv⟩:=Row.form hl;subst hmv;have HMV:=Lib.hid hl;have HB4:=Lib.hid (HB3.out.trans (hb4.mono HB3.out.size));have HO4:=Lib.hid (HO3.out.below hb4);have HOM4:=Lib.hid (HOM.out.below hb4);have HLV4:=Lib.hid (Row.below HLV.out hb4);clear hl hb4)
  have CSN:=Lib.hid (fun (z:Life) (w':World) (hb:Below w4.heap.size w4 w')=>RSentO_any _ L z w' (HT.out _ (HB4.out.trans (hb.mono HB4.out.size))) (HO4.out.below hb) (by omega))
  have CSM0:=Lib.hid (fun (z:Life) (w':World) (hb:Below w4.heap.size w4 w')=>RSent_any _ (L.take m) z w' (HT.out _ (HB4.out.trans (hb.mono HB4.out.size))) (HOM4.out.below hb) (by rw [List.length_take];omega))
  clear CS CF CL CM HO HO3 HOM HLV
  have hLM:(livesTo (L.take m) (m:Int) m).length≤1440000:=by have:=livesTo_len (L.take m) (m:Int) m;omega
  generalize livesTo (L.take m) (m:Int) m=LM at *
  generalize livesTo L (L.length:Int) L.length=LL at *
  have hlm300:LL.length≤24000*L.length:=HLL.out
  go_loopw [32] (fun s32 w'=>∃ i:Nat,i≤LM.length∧s32 = .int .i64 (i:Int)∧Below w4.heap.size w4 w') (fun s32 _=>LM.length-(intOf s32).toNat)
  case atStart=>exact ⟨0,by omega,rfl,Below.refl _ _⟩
  case round=>
    obtain ⟨i,hi,rfl,hbel⟩:=hrel
    have HBR:=Lib.hid hbel
    by_cases hil:i<LM.length
    rotate_left
    · have hii:i=LM.length:=by omega
      clear hbel
      subst hii
      go_wp2
      go_ret
      exact ⟨rfl,HB4.out.trans (HBR.out.mono HB4.out.size)⟩
    have hz:LM[i]?=some LM[i]:=List.getElem?_eq_getElem hil
    obtain ⟨g,o,e,hrg⟩:=life_range (HMV.out.below hbel) hz
    subst e
    have HWL:=Lib.hid (HLAW.out LM[i] (List.getElem_mem hil))
    have HWN:=Lib.hid (fun l=>HLEN.out LM[i] l)
    have hw60:(wantF L m LM[i] LL).length≤60:=by
      rw [HWL.out]
      have:=sentOf_len (L.take m) LM[i]
      rw [List.length_take] at this
      omega
    generalize LM[i]=x at *
    have hiI:(i:Int)<(LM.length:Int):=Int.ofNat_lt.2 hil
    have CSM:=Lib.hid (fun (w':World) (hb:Below w4.heap.size w4 w')=>CSM0.out x w' hb)
    rw [←HWL.out] at CSM
    have HSN:=Lib.hid (fun (z:Life) (l:List Life)=>wantF_snoc L m x z l)
    have HW0:Hid (wantF L m x []=[]):=rfl
    obtain ⟨xp,xs,xb,xf⟩:=x
    dsimp only [lifeCells] at hrg CSM
    have hz7:=heap_new wr (.cells #[.int .i64 0,.int .i64 0,.int .i64 0,.int .i64 0] 59)
    have HFW7:Hid (FW ((wr.alloc (.cells #[.int .i64 0,.int .i64 0,.int .i64 0,.int .i64 0] 59)).setRow wr.heap.size #[.int .i64 xp,.int .i64 xs,.int .i64 xb,.int .i64 xf]) ((wr.alloc (.cells #[.int .i64 0,.int .i64 0,.int .i64 0,.int .i64 0] 59)).setRow wr.heap.size #[.int .i64 xp,.int .i64 xs,.int .i64 xb,.int .i64 xf]) (.slice none 0 0) [] wr.heap.size [.int .i64 xp,.int .i64 xs,.int .i64 xb,.int .i64 xf]):=⟨Below.refl _ _,World.ownsRow_nil _ _ _ _,setRow_heap _ _ _ _ _ _ hz7⟩
    have HB7:Hid (Below w4.heap.size w4 ((wr.alloc (.cells #[.int .i64 0,.int .i64 0,.int .i64 0,.int .i64 0] 59)).setRow wr.heap.size #[.int .i64 xp,.int .i64 xs,.int .i64 xb,.int .i64 xf])):=HBR.out.trans ((below_setRow (below_alloc wr _) (Nat.le_refl _) _).mono HBR.out.size)
    clear hbel hz HLAW HWL CSM0
    go_upto_region 10 with (first|(with_reducible refine load_at 59 (.tmp 34) rfl ?_;refine wpList_load_mid rfl 59 (.tmp 34) rfl g (o+i*4) rfl [.int .i64 xp,.int .i64 xs,.int .i64 xb,.int .i64 xf] _ hrg Tryz.underlying59 rfl (by kernel_rfl) ?_)|(with_reducible refine store_at 59 (.tmp 7) (.tmp 35) rfl ?_;refine store_rowTo2 rfl 59 (.tmp 7) (.tmp 35) rfl rfl wr.heap.size #[.int .i64 xp,.int .i64 xs,.int .i64 xb,.int .i64 xf] rfl rfl 59 #[.int .i64 0,.int .i64 0,.int .i64 0,.int .i64 0] hz7 (by kernel_rfl) (by kernel_rfl) (by kernel_rfl) ?_))
    clear hz7 hrg
    generalize ((wr.alloc (.cells #[.int .i64 0,.int .i64 0,.int .i64 0,.int .i64 0] 59)).setRow wr.heap.size #[.int .i64 xp,.int .i64 xs,.int .i64 xb,.int .i64 xf])=w7 at *
    generalize wr.heap.size=K at *
    go_wp2_with fail
    go_loopw [8,38] (fun s8 s38 w'=>∃ j:Nat,j≤LL.length∧s38 = .int .i64 (j:Int)∧FW w7 w' s8 (wantF L m ⟨xp,xs,xb,xf⟩ (LL.take j)) K [.int .i64 xp,.int .i64 xs,.int .i64 xb,.int .i64 xf]) (fun _ s38 _=>LL.length-(intOf s38).toNat)
    case atStart=>exact ⟨0,by omega,rfl,by rw [List.take_zero,HW0.out];exact HFW7.out⟩
    case round=>
      obtain ⟨j,hj,rfl,hfw⟩:=hrel
      clear HFW7
      have HFW:=Lib.hid hfw
      clear hfw
      obtain ⟨ua,uc,rfl⟩:=Row.form (Row.of_owns HFW.out.own)
      have hlen:=HWN.out (LL.take j)
      by_cases hjl:j<LL.length
      rotate_left
      · have hjj:LL.take j=LL:=List.take_of_length_le (by omega)
        rw [hjj] at HFW hlen
        rw [hjj]
        generalize wantF L m ⟨xp,xs,xb,xf⟩ LL=acc at *
        have HFZ:=HFW
        have HBZ:=Lib.hid (HB7.out.trans (HFW.out.bel.mono HB7.out.size))
        obtain ⟨wz,rfl⟩:∃ W:World,W=wr:=⟨_,rfl⟩
        go_wp2_with fail
        have KEEP:Hid (∀ w',Below wz.heap.size wz w'→w'.rangeAt K 0 [.int .i64 xp,.int .i64 xs,.int .i64 xb,.int .i64 xf]∧Below wz.heap.size wz w'):=fun w' hb=>⟨fun u v hv=>by rw [Nat.zero_add,cell_of (HFZ.out.below hb).blk u];simpa using hv,hb⟩
        clear HFW
        refine wp_region_noPanic ?_
        refine AnyT.region_start (d:=6) (S:=(fun w'=>w'.rangeAt K 0 [.int .i64 xp,.int .i64 xs,.int .i64 xb,.int .i64 xf]∧Below wz.heap.size wz w')) (by kernel_rfl) ?_ (fun hHeld0=>?_)
        · (try dsimp only)
          exact KEEP.out _ (Below.refl _ _).drew
        refine AnyT.tp 0 ?_ rfl ?_ <| AnyT.tp 1 ?_ rfl ?_ <| AnyT.tp 2 ?_ rfl ?_ <| AnyT.tp 5 ?_ rfl ?_ <| ?_
        any_goals (intro wS hSw;(try dsimp only at hSw);(try simp only [AnyT.pt]);go_simp;try with_reducible rfl)
        try simp only [AnyT.pt]
        refine AnyT.tk 3 ?_ rfl ?_ <| ?_
        rotate_left
        · intro wS hSw;(try dsimp only at hSw)
          refine (exec_load_mid 59 (.tmp 7) ?_ K 0 ?_ [.int .i64 xp,.int .i64 xs,.int .i64 xb,.int .i64 xf] _ hSw.1 Tryz.underlying59 rfl (by kernel_rfl)).trans ?_
          all_goals rfl
        try simp only [AnyT.pt]
        refine AnyT.till_ready (rs:=[4]) (by kernel_rfl) (by simp) ?_
        refine AnyT.each_cons (i:=4) rfl (fun K hK=>?_) AnyT.each_nil
        go_simp
        refine (CSM.out wz.drew (HBZ.out.trans ((Below.refl wz.heap.size wz).drew.mono HBZ.out.size))).mono ?_
        rintro e wA ⟨⟨ev2,rfl,hev2⟩,hbA⟩
        have HBA:=Lib.hid ((Below.refl wz.heap.size wz).drew.trans hbA)
        have HEV2:=Lib.hid hev2
        clear hev2 hbA
        go_wp2_with fail
        refine AnyT.go_on hK _ _ ?_ (fun hHeld1=>?_)
        · (try dsimp only)
          exact KEEP.out _ (by first|with_reducible exact HBA.out|with_reducible exact (Below.refl _ _).drew)
        clear hK K
        try simp only [AnyT.pt]
        refine AnyT.till_ready (rs:=[6]) (by kernel_rfl) (by simp) ?_
        refine AnyT.each_cons (i:=6) rfl (fun K hK=>?_) AnyT.each_nil
        go_simp
        refine (SameEm_any _ _ _ wA HEV2.out (Row.below (Row.of_owns HFZ.out.own) HBA.out) (by omega)).mono ?_
        rintro e wB ⟨rfl,hbB⟩
        have HBB:=Lib.hid (HBA.out.trans (hbB.mono HBA.out.size))
        clear hbB
        go_wp2_with fail
        refine AnyT.go_past hK _ _ (by kernel_rfl) ?_
        clear hK K
        try simp only [AnyT.pt]
        refine AnyT.tp 7 ?_ rfl ?_ <| ?_
        any_goals (intro wS hSw;(try dsimp only at hSw);(try simp only [AnyT.pt]);go_simp;try with_reducible rfl)
        try simp only [AnyT.pt]
        refine AnyT.till_done (by kernel_rfl) ?_ _
        refine NoPanic.normal ?_
        go_wp2_with fail
        go_roundw
        case rel=>exact ⟨i+1,by omega,by go_num,HBZ.out.trans (HBB.out.mono HBZ.out.size)⟩
        case measure=>simp [intOf];omega
      have hz2:LL[j]?=some LL[j]:=List.getElem?_eq_getElem hjl
      have HBJ:=Lib.hid (HB7.out.trans (HFW.out.bel.mono HB7.out.size))
      obtain ⟨g2,o2,e2,hrg2⟩:=life_range (Row.below HLV4.out HBJ.out) hz2
      subst e2
      have HTK:Hid (LL.take (j+1)=LL.take j++[LL[j]]):=take_snocM hz2
      have HSNJ:=Lib.hid (HSN.out LL[j] (LL.take j))
      rw [←HTK.out] at HSNJ
      generalize LL[j]=z at *
      have hjI:(j:Int)<(LL.length:Int):=Int.ofNat_lt.2 hjl
      have CSZ:=Lib.hid (fun (w':World) (hb:Below w4.heap.size w4 w')=>CSN.out z w' hb)
      have hlz:(sentOf L z).length≤60:=by have:=sentOf_len L z;omega
      generalize sentOf L z=E at *
      obtain ⟨zp,zs,zb,zf⟩:=z
      dsimp only [lifeCells] at hrg2 CSZ HSNJ
      have hz13:=heap_new wr (.cells #[.int .i64 0,.int .i64 0,.int .i64 0,.int .i64 0] 59)
      have HFW13:=Lib.hid (HFW.out.below (below_setRow (below_alloc wr (.cells #[.int .i64 0,.int .i64 0,.int .i64 0,.int .i64 0] 59)) (Nat.le_refl _) #[.int .i64 zp,.int .i64 zs,.int .i64 zb,.int .i64 zf]))
      have HZB13:Hid (((wr.alloc (.cells #[.int .i64 0,.int .i64 0,.int .i64 0,.int .i64 0] 59)).setRow wr.heap.size #[.int .i64 zp,.int .i64 zs,.int .i64 zb,.int .i64 zf]).heap[wr.heap.size]?=some (.cells #[.int .i64 zp,.int .i64 zs,.int .i64 zb,.int .i64 zf] 59 (0,0))):=setRow_heap _ _ _ _ _ _ hz13
      have HB13:=Lib.hid (HBJ.out.trans ((below_setRow (below_alloc wr (.cells #[.int .i64 0,.int .i64 0,.int .i64 0,.int .i64 0] 59)) (Nat.le_refl _) #[.int .i64 zp,.int .i64 zs,.int .i64 zb,.int .i64 zf]).mono HBJ.out.size))
      clear hz2 HTK
      go_upto_region 14 with (first|(with_reducible refine load_at 59 (.tmp 40) rfl ?_;refine wpList_load_mid rfl 59 (.tmp 40) rfl g2 (o2+j*4) rfl [.int .i64 zp,.int .i64 zs,.int .i64 zb,.int .i64 zf] _ hrg2 Tryz.underlying59 rfl (by kernel_rfl) ?_)|(with_reducible refine store_at 59 (.tmp 10) (.tmp 41) rfl ?_;refine store_rowTo2 rfl 59 (.tmp 10) (.tmp 41) rfl rfl wr.heap.size #[.int .i64 zp,.int .i64 zs,.int .i64 zb,.int .i64 zf] rfl rfl 59 #[.int .i64 0,.int .i64 0,.int .i64 0,.int .i64 0] hz13 (by kernel_rfl) (by kernel_rfl) (by kernel_rfl) ?_))
      clear hz13 hrg2
      generalize ((wr.alloc (.cells #[.int .i64 0,.int .i64 0,.int .i64 0,.int .i64 0] 59)).setRow wr.heap.size #[.int .i64 zp,.int .i64 zs,.int .i64 zb,.int .i64 zf])=w13 at *
      generalize wr.heap.size=K2 at *
      have x2:w13.cell? ⟨K,2,none⟩=some (.int .i64 xb):=by rw [cell_of HFW13.out.blk 2];rfl
      have z2:w13.cell? ⟨K2,2,none⟩=some (.int .i64 zb):=by rw [cell_of HZB13.out 2];rfl
      by_cases hbeq:zb=xb
      rotate_left
      · have hne:(zb != xb)=true:=by rw [bne_iff_ne];exact hbeq
        rw [if_neg hbeq,List.append_nil] at HSNJ
        go_wp2_with fail
        go_roundw
        case rel=>exact ⟨j+1,by omega,by go_num,by rw [HSNJ.out];exact HFW13.out⟩
        case measure=>simp [intOf];omega
      have hne:(zb != xb)=false:=by rw [bne_eq_false_iff_eq];exact hbeq
      rw [if_pos hbeq] at HSNJ
      have hacc:(wantF L m ⟨xp,xs,xb,xf⟩ (LL.take j)).length≤1440000*60:=Nat.le_trans hlen (Nat.mul_le_mul (by rw [List.length_take];omega) hL)
      generalize wantF L m ⟨xp,xs,xb,xf⟩ (LL.take j)=acc at *
      clear hbeq hlen
      have hzb:=HZB13.out
      go_wp2_with (first|(with_reducible refine load_at 59 (.tmp 10) rfl ?_;refine load_rowTo2 rfl 59 (.tmp 10) rfl K2 rfl 59 #[.int .i64 zp,.int .i64 zs,.int .i64 zb,.int .i64 zf] (0,0) _ hzb Tryz.underlying59 rfl (by kernel_rfl) ?_)|(go_at_call 29;refine (CSZ.out _ HB13.out).mono ?_;rintro e w15 ⟨⟨ev,rfl,hev⟩,hb15⟩;obtain ⟨ea,ec,hfe⟩:=Row.form (Row.of_owns hev);subst hfe;have HFL:=Lib.hid (FL.of HFW13.out hb15 hev);clear hev hb15))
      clear hzb x2 z2 hne
      go_loopw [8,51] (fun s8 s51 w'=>∃ i:Nat,i≤E.length∧s51 = .int .i64 (i:Int)∧FL w7 w' s8 (acc++(E.take i).filter (fun e:Emi=>decide (e.event<(m:Int)))) K [.int .i64 xp,.int .i64 xs,.int .i64 xb,.int .i64 xf] w13.heap.size (.slice ea E.length ec) E) (fun _ s51 _=>E.length-(intOf s51).toNat)
      case atStart=>exact ⟨0,by omega,rfl,by rw [List.take_zero,List.filter_nil,List.append_nil];exact HFL.out⟩
      case round=>
        obtain ⟨i2,hi2,rfl,hfl⟩:=hrel
        obtain ⟨acc2,hacc2⟩:∃ l,l=acc++(E.take i2).filter (fun e:Emi=>decide (e.event<(m:Int))):=⟨_,rfl⟩
        rw [←hacc2] at hfl
        have HFL2:=Lib.hid hfl
        have HAC:=Lib.hid hacc2
        have hlf:acc2.length≤86400060:=by
          have h1:=List.length_filter_le (fun e:Emi=>decide (e.event<(m:Int))) (E.take i2)
          rw [List.length_take] at h1
          rw [hacc2,List.length_append];omega
        clear hfl HFL hacc2
        obtain ⟨va,vc,rfl⟩:=Row.form (Row.of_owns HFL2.out.fw.own)
        by_cases hil2:i2<E.length
        rotate_left
        · have hii:E.take i2=E:=List.take_of_length_le (by omega)
          have hi22:i2=E.length:=by omega
          subst hi22
          go_wp2_with fail
          go_roundw
          case rel=>
            exact ⟨j+1,by omega,by go_num,by rw [HSNJ.out];have h:=HAC.out;rw [hii] at h;rw [←h];exact HFL2.out.fw⟩
          case measure=>simp [intOf];omega
        have he:E[i2]?=some E[i2]:=List.getElem?_eq_getElem hil2
        have hi2I:(i2:Int)<(E.length:Int):=Int.ofNat_lt.2 hil2
        obtain ⟨ge,oe,ee,hre⟩:=emi_range (Row.of_owns HFL2.out.row) he
        subst ee
        have HTE:Hid (E.take (i2+1)=E.take i2++[E[i2]]):=take_snocM he
        generalize E[i2]=em at *
        obtain ⟨e1,e2,e3,e4,e5,e6⟩:=em
        dsimp only [emiCells] at hre
        have HFE:Hid ((E.take (i2+1)).filter (fun e:Emi=>decide (e.event<(m:Int)))=(E.take i2).filter (fun e:Emi=>decide (e.event<(m:Int)))++if e1<(m:Int) then [⟨e1,e2,e3,e4,e5,e6⟩] else []):=by
          show _=_
          rw [HTE.out,List.filter_append]
          by_cases hem:e1<(m:Int)
          · rw [if_pos hem,List.filter_cons_of_pos (by exact decide_eq_true hem),List.filter_nil]
          · rw [if_neg hem,List.filter_cons_of_neg (by intro h;exact hem (of_decide_eq_true h)),List.filter_nil]
        have hz17:=heap_new wr (.cells #[.int .i64 0,.int .u16 0,.int .u32 0,.int .u32 0,.int .u16 0,.bool false] 70)
        have HFL17:=Lib.hid (HFL2.out.below (below_setRow (below_alloc wr (.cells #[.int .i64 0,.int .u16 0,.int .u32 0,.int .u32 0,.int .u16 0,.bool false] 70)) (Nat.le_refl _) #[.int .i64 e1,.int .u16 e2,.int .u32 e3,.int .u32 e4,.int .u16 e5,.bool e6]))
        have HZB17:Hid (((wr.alloc (.cells #[.int .i64 0,.int .u16 0,.int .u32 0,.int .u32 0,.int .u16 0,.bool false] 70)).setRow wr.heap.size #[.int .i64 e1,.int .u16 e2,.int .u32 e3,.int .u32 e4,.int .u16 e5,.bool e6]).heap[wr.heap.size]?=some (.cells #[.int .i64 e1,.int .u16 e2,.int .u32 e3,.int .u32 e4,.int .u16 e5,.bool e6] 70 (0,0))):=setRow_heap _ _ _ _ _ _ hz17
        clear he HTE
        go_upto_region 18 with (first|(with_reducible refine load_at 70 (.tmp 53) rfl ?_;refine wpList_load_mid rfl 70 (.tmp 53) rfl ge (oe+i2*6) rfl [.int .i64 e1,.int .u16 e2,.int .u32 e3,.int .u32 e4,.int .u16 e5,.bool e6] _ hre Tryz.underlying70 rfl (by kernel_rfl) ?_)|(with_reducible refine store_at 70 (.tmp 12) (.tmp 54) rfl ?_;refine store_rowTo2 rfl 70 (.tmp 12) (.tmp 54) rfl rfl wr.heap.size #[.int .i64 e1,.int .u16 e2,.int .u32 e3,.int .u32 e4,.int .u16 e5,.bool e6] rfl rfl 70 #[.int .i64 0,.int .u16 0,.int .u32 0,.int .u32 0,.int .u16 0,.bool false] hz17 (by kernel_rfl) (by kernel_rfl) (by kernel_rfl) ?_))
        clear hz17 hre HFL2
        generalize ((wr.alloc (.cells #[.int .i64 0,.int .u16 0,.int .u32 0,.int .u32 0,.int .u16 0,.bool false] 70)).setRow wr.heap.size #[.int .i64 e1,.int .u16 e2,.int .u32 e3,.int .u32 e4,.int .u16 e5,.bool e6])=w17 at *
        generalize wr.heap.size=K3 at *
        have e0:w17.cell? ⟨K3,0,none⟩=some (.int .i64 e1):=by rw [cell_of HZB17.out 0];rfl
        have HA2:Hid (acc++(E.take (i2+1)).filter (fun e:Emi=>decide (e.event<(m:Int)))=acc2++if e1<(m:Int) then [⟨e1,e2,e3,e4,e5,e6⟩] else []):=by
          show _=_
          rw [HFE.out,←List.append_assoc,←HAC.out]
        clear HAC HFE
        by_cases hem:e1<(m:Int)
        rotate_left
        · have dm:decide (e1<(m:Int))=false:=decide_eq_false hem
          rw [if_neg hem,List.append_nil] at HA2
          go_wp2_with fail
          go_roundw
          case rel=>exact ⟨i2+1,by omega,by go_num,by rw [HA2.out];exact HFL17.out⟩
          case measure=>simp [intOf];omega
        have dm:decide (e1<(m:Int))=true:=decide_eq_true hem
        rw [if_pos hem] at HA2
        have hzc:=HZB17.out
        have HN1:Hid (Row (w17.alloc (.cells #[.int .i64 e1,.int .u16 e2,.int .u32 e3,.int .u32 e4,.int .u16 e5,.bool e6] 70)) 70 (.slice (some ⟨w17.heap.size,0,none⟩) 1 1) 1 [.int .i64 e1,.int .u16 e2,.int .u32 e3,.int .u32 e4,.int .u16 e5,.bool e6]):=rowNew w17 70 1 [.int .i64 e1,.int .u16 e2,.int .u32 e3,.int .u32 e4,.int .u16 e5,.bool e6] (by decide)
        have HFL18:=Lib.hid (HFL17.out.below (below_alloc w17 (.cells #[.int .i64 e1,.int .u16 e2,.int .u32 e3,.int .u32 e4,.int .u16 e5,.bool e6] 70)))
        have HONE1:Hid (∀ u∈([.int .i64 e1,.int .u16 e2,.int .u32 e3,.int .u32 e4,.int .u16 e5,.bool e6]:List Value),u.oneCell'=true):=fun u hu=>by
          simp only [List.mem_cons,List.mem_nil_iff,or_false] at hu
          rcases hu with rfl|rfl|rfl|rfl|rfl|rfl <;> rfl
        go_wp2_with (first|(with_reducible refine load_at 70 (.tmp 12) rfl ?_;refine load_rowTo2 rfl 70 (.tmp 12) rfl K3 rfl 70 #[.int .i64 e1,.int .u16 e2,.int .u32 e3,.int .u32 e4,.int .u16 e5,.bool e6] (0,0) _ hzc Tryz.underlying70 rfl (by kernel_rfl) ?_)|(at_builtin;refine wpList_appW rfl (.tmp 59) (.tmp 61) 61 rfl w7.heap.size elemEmi (.slice va acc2.length vc) acc2.length (acc2.flatMap emiCells) rfl HFL18.out.fw.own w17.heap.size 1 1 [.int .i64 e1,.int .u16 e2,.int .u32 e3,.int .u32 e4,.int .u16 e5,.bool e6] rfl HN1.out rfl HONE1.out (by decide) (by omega) (by omega) HFL18.out.fw.bel.size (fun v19 w19 HO19 HG19 HW19=>?_)))
        have HOA:Hid (w19.ownsRow w7.heap.size 70 6 v19 (acc2++[(⟨e1,e2,e3,e4,e5,e6⟩:Emi)]).length ((acc2++[(⟨e1,e2,e3,e4,e5,e6⟩:Emi)]).flatMap emiCells)):=(by rw [List.length_append,List.flatMap_append];exact HO19.out)
        have HFL19:=Lib.hid (HFL18.out.grow HG19.out HOA.out HW19.out)
        go_roundw
        case rel=>exact ⟨i2+1,by omega,by go_num,by rw [HA2.out];exact HFL19.out⟩
        case measure=>simp [intOf];omega
end Go.Proofs.By
