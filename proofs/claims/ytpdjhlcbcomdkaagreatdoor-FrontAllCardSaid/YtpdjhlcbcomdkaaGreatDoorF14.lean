/- Part of a proof. -/
import Derived.Test.YtpdjhlcbcomdkaaGreatDoorF13
set_option linter.unusedVariables false
set_option linter.unusedSimpArgs false
set_option maxRecDepth 100000
set_option maxHeartbeats 16000000
open Go Go.Q Go.Qr
namespace Go.Proofs.Rm
abbrev Open:=Int × Int→Bool
def Rl (t:YE):Int × Int:=(t.peer,t.source)
def rq (S:Open) (t:YE):Bool:=(decide (t.kind=9) || (WB t.peer 9 && WB t.source 9)) && if t.kind=1 then !S (Rl t) else if t.kind=2 then S (Rl t) else if t.kind=9 then true else S (Rl t)
theorem Hm {S:Open} {t:YE} {p n:Nat} (hp:t.peer=p) (hn:t.source=n) (h1:1≤p) (h2:p<9) (h3:1≤n) (h4:n<9) (h:(if t.kind=1 then !S (Rl t) else if t.kind=2 then S (Rl t) else if t.kind=9 then true else S (Rl t))=true):rq S t=true:=by
 unfold rq
 rw [h,hp,hn,(X7 _ _).2 ⟨Zo,Zo⟩,(X7 _ _).2 ⟨Zo,Zo⟩]
 simp
def Xy (S:Open) (t:YE):Open:=if t.kind=1 then fun x=>decide (x=Rl t) || S x else if t.kind=2 then fun x=> !decide (x=Rl t) && S x else S
def O5 (S:Open):List YE→Prop
 | []=>True
 | t :: l=>rq S t=true∧O5 (Xy S t) l
def Good (S:Open) (l:List YE) (S':Open):Prop:=O5 S l∧l.foldl Xy S=S'
theorem Good.nil (S:Open):Good S [] S:=⟨trivial,rfl⟩
theorem Good.cons {S S1 S':Open} {t:YE} {l:List YE} (h:rq S t=true) (h1:Xy S t=S1) (hl:Good S1 l S'):Good S (t :: l) S':=by
 subst h1
 exact ⟨⟨h,hl.1⟩,hl.2⟩
theorem Nb:∀ (a:List YE) (S:Open) (b:List YE),O5 S a→O5 (a.foldl Xy S) b→O5 S (a++b)
 | [],_,_,_,h=>h
 | t :: a,S,b,h1,h2=>⟨h1.1,Nb a (Xy S t) b h1.2 h2⟩
theorem Good.append {S S1 S':Open} {a b:List YE} (h1:Good S a S1) (h2:Good S1 b S'):Good S (a++b) S':=by
 obtain ⟨h1,rfl⟩:=h1
 exact ⟨Nb a S b h1 h2.1,by rw [List.foldl_append];exact h2.2⟩
theorem E6:∀ (l:List YE) (S:Open),O5 S l→∀ (i:Nat) (h:i<l.length),rq ((l.take i).foldl Xy S) l[i]=true
 | t :: l,S,h,0,_=>h.1
 | t :: l,S,h,i+1,hi=>E6 l (Xy S t) h.2 i (by simpa using hi)
theorem Good.step {S S':Open} {l:List YE} (h:Good S l S') (i:Nat) (hi:i<l.length):rq ((l.take i).foldl Xy S) l[i]=true∧(l.take (i+1)).foldl Xy S=Xy ((l.take i).foldl Xy S) l[i]:=
 ⟨E6 l S h.1 i hi,by rw [List.take_succ_eq_append_getElem hi,List.foldl_append];rfl⟩
theorem Ti {S:Open}:∀ (l:List YE),(∀ t∈l,t.kind≠1∧t.kind≠2∧(t.kind=9∨(S (Rl t)=true∧WB t.peer 9=true∧WB t.source 9=true)))→Good S l S
 | [],_=>Good.nil S
 | t :: l,h=>by
  obtain ⟨h1,h2,h3⟩:=h t Zi
  refine Good.cons ?_ (by unfold Xy;rw [Z6 h1,Z6 h2]) (Ti l fun x hx=>h x (by simp [hx]))
  unfold rq
  rw [Z6 h1,Z6 h2]
  rcases h3 with h9|⟨a,b,c⟩
  ·rw [ZX h9,Ws h9];rfl
  ·rw [a,b,c]
   split <;> simp
def opens (R:Room):Open:=fun x=>ZH R x.1 x.2
theorem P6 {R:Room} {x:Int × Int}:opens R x=true↔∃ p n:Nat,x=((p:Int),(n:Int))∧1≤p∧p<9∧1≤n∧n<9∧(R.sub n p).there=true:=by
 obtain ⟨a,b⟩:=x
 unfold opens ZH
 simp only [Ui,X7]
 constructor
 ·rintro ⟨⟨h1,h2⟩,h3⟩
  exact ⟨a.toNat,b.toNat,by rw [Int.toNat_of_nonneg Zo,Int.toNat_of_nonneg Zo],Zo,Zo,Zo,Zo,h3⟩
 ·rintro ⟨p,n,e,h1,h2,h3,h4,h5⟩
  simp only [Prod.mk.injEq] at e
  obtain ⟨rfl,rfl⟩:=e
  rw [Xf,Xf]
  exact ⟨⟨⟨Zo,Zo⟩,Zo,Zo⟩,h5⟩
theorem S5 {R:Room} {p n:Nat} (h1:1≤p) (h2:p<9) (h3:1≤n) (h4:n<9):opens R ((p:Int),(n:Int))=(R.sub n p).there:=by
 show ZH R p n=_
 unfold ZH
 rw [(X7 _ _).2 ⟨Zo,Zo⟩,(X7 _ _).2 ⟨Zo,Zo⟩,Xf,Xf]
 simp
theorem FU {R':Room} {f:Int × Int→Bool} (h:∀ p n:Nat,1≤p→p<9→1≤n→n<9→(R'.sub n p).there=f ((p:Int),(n:Int))) (h0:∀ x,f x=true→∃ p n:Nat,x=((p:Int),(n:Int))∧1≤p∧p<9∧1≤n∧n<9):opens R'=f:=by
 funext x
 rw [Bool.eq_iff_iff]
 constructor
 ·intro hx
  obtain ⟨p,n,rfl,h1,h2,h3,h4,h5⟩:=P6.1 hx
  rw [←h p n h1 h2 h3 h4];exact h5
 ·intro hx
  obtain ⟨p,n,rfl,h1,h2,h3,h4⟩:=h0 x hx
  rw [P6]
  exact ⟨p,n,rfl,h1,h2,h3,h4,by rw [h p n h1 h2 h3 h4];exact hx⟩
theorem BV {R:Room} {x:Int × Int} (h:opens R x=true):∃ p n:Nat,x=((p:Int),(n:Int))∧1≤p∧p<9∧1≤n∧n<9:=by
 obtain ⟨p,n,e,h1,h2,h3,h4,_⟩:=P6.1 h
 exact ⟨p,n,e,h1,h2,h3,h4⟩
theorem xX (p q n m:Nat):decide (((p:Int),(n:Int))=((q:Int),(m:Int)))=(decide (n=m) && decide (p=q)):=by
 rw [Bool.eq_iff_iff]
 simp
 omega
theorem KV (R:Room) (n p:Nat):opens (R.ZZ n p VJ)=fun x=> !decide (x=((p:Int),(n:Int))) && opens R x:=by
 refine FU (fun q m h1 h2 h3 h4=>?_) (fun x hx=>BV (Bool.and_eq_true_iff.1 hx).2)
 show _=(!decide (((q:Int),(m:Int))=((p:Int),(n:Int))) && opens R ((q:Int),(m:Int)))
 rw [xX,S5 h1 h2 h3 h4,Wq]
 by_cases e:m=n∧q=p
 ·rw [ZX e,Ws e.1,Ws e.2];rfl
 ·exact lh
theorem BW (R:Room) {n p:Nat} (x:Sub) (hx:x.there=true) (h1:1≤p) (h2:p<9) (h3:1≤n) (h4:n<9):opens (R.ZZ n p x)=fun y=>decide (y=((p:Int),(n:Int))) || opens R y:=by
 refine FU (fun q m a1 a2 a3 a4=>?_) (fun y hy=>?_)
 ·show _=(decide (((q:Int),(m:Int))=((p:Int),(n:Int))) || opens R ((q:Int),(m:Int)))
  rw [xX,S5 a1 a2 a3 a4,Wq]
  by_cases e:m=n∧q=p
  ·rw [ZX e,Ws e.1,Ws e.2,hx];rfl
  ·exact lh
 ·rcases Bool.or_eq_true_iff.1 hy with h|h
  ·exact ⟨p,n,of_decide_eq_true h,h1,h2,h3,h4⟩
  ·exact BV (R:=R) h
theorem zy {R R':Room} (h:∀ n p,(R'.sub n p).there=(R.sub n p).there):opens R'=opens R:=by
 funext x
 unfold opens ZH
 rw [h]
theorem M3 (R:Room) (n p:Nat) (x:Sub) (hx:x.there=(R.sub n p).there):opens (R.ZZ n p x)=opens R:=by
 refine zy fun m q=>?_
 rw [Wq]
 split
 ·rename_i e;rw [e.1,e.2];exact hx
 ·rfl
theorem J_ (n:Nat) (hn:1≤n∧n<9):∀ (l:List Nat) (R:Room),l.Nodup→(∀ p∈l,1≤p∧p<9∧(R.sub n p).there=true)→Good (opens R) (XN n l R).1 (opens (XN n l R).2)
 | [],R,_,_=>Good.nil _
 | p :: l,R,hd,hl=>by
  obtain ⟨h1,h2,h3⟩:=hl p Zi
  have ho:opens R ((p:Int),(n:Int))=true:=by rw [S5 h1 h2 hn.1 hn.2];exact h3
  obtain ⟨fg,GD⟩:=List.nodup_cons.1 hd
  refine Good.cons (S1:=opens R) (Hm (p:=p) (n:=n) rfl rfl h1 h2 hn.1 hn.2 ho) rfl (Good.cons (S1:=opens (R.ZZ n p VJ)) (Hm (p:=p) (n:=n) rfl rfl h1 h2 hn.1 hn.2 ho) (by rw [KV];rfl) (J_ n hn l _ GD fun q hq=>?_))
  obtain ⟨a1,a2,a3⟩:=hl q (by simp [hq])
  refine ⟨a1,a2,?_⟩
  rw [Wq,Z6 (fun e:n=n∧q=p=>fg (e.2▸hq))]
  exact a3
theorem zW (R:Room) (n:Int):(Z8 R n).Nodup:=List.Pairwise.filter _ List.nodup_range
theorem KO (R:Room) {n:Nat} (hn:1≤n∧n<9):Good (opens R) (gone R n).1 (opens (gone R n).2):=by
 have h:=J_ n hn (Z8 R n) R (zW R n) (fun p hp=>by
  obtain ⟨h1,h2,_,_,h5⟩:=P4.1 hp
  exact ⟨h1,h2,h5⟩)
 exact h
theorem Kn (R:Room) (hI:Inv R) (p:Nat) (hp:1≤p∧p<9):∀ k,Good (opens R) (ZP p R k).1 (opens (ZP p R k).2)
 | 0=>Good.nil _
 | k+1=>by
  have ih:=Kn R hI p hp k
  unfold ZP
  dsimp only
  split
  ·rename_i ht
   have hk:=(Ry hI p k).Zx k p ht
   refine ih.append (Good.cons ?_ ?_ (Good.nil _))
   ·refine Hm (p:=p) (n:=k) rfl rfl hp.1 hp.2 hk.1 hk.2.1 ?_
    show opens (ZP p R k).2 ((p:Int),(k:Int))=true
    rw [S5 hp.1 hp.2 hk.1 hk.2.1];exact ht
   ·rw [KV];rfl
  ·exact ih
theorem Kp (R:Room) (hI:Inv R) (p:Nat):∀ k,Good (opens R) (ZM R p k).1 (opens (ZM R p k).2)
 | 0=>Good.nil _
 | k+1=>by
  have ih:=Kp R hI p k
  unfold ZM
  dsimp only
  split
  ·rename_i ht
   have hk:=hI.Zq k (Bool.and_eq_true_iff.1 ht).1
   exact ih.append (KO _ ⟨hk.1,hk.2.1⟩)
  ·exact ih
theorem zq (R:Room) (hI:Inv R) (p:Nat) (hp:1≤p∧p<9):Good (opens R) (leave R p).1 (opens (leave R p).2):=
 (Kn R hI p hp 9).append (Kp _ (Ry hI p 9) p 9)
theorem CX {R:Room} {S:Open} {n p:Nat}:∀ t∈waits R p n,t.kind≠1∧t.kind≠2∧(t.kind=9∨(S (Rl t)=true∧WB t.peer 9=true∧WB t.source 9=true)):=by
 intro t ht
 unfold waits at ht
 split at ht
 ·cases ht
 ·rw [I9] at ht
  subst ht
  exact ⟨by simp [asks],by simp [asks],Wc rfl⟩
theorem FN (R:Room) {n:Nat} (on:Bool):Good (opens R) (mute R n on).1 (opens (mute R n on).2):=by
 have e:opens (mute R n on).2=opens R:=rfl
 rw [e]
 refine Ti _ fun t ht=>?_
 obtain ⟨p,hp,ht⟩:=List.mem_flatMap.1 ht
 obtain ⟨h1,h2,h3,h4,h5⟩:=P4.1 hp
 have ho:opens R ((p:Int),(n:Int))=true:=by
  rw [←e,P6]
  exact ⟨p,n,rfl,h1,h2,h3,h4,h5⟩
 have ho:opens R ((p:Int),(n:Int))=true∧WB (p:Int) 9=true∧WB (n:Int) 9=true:=⟨ho,(X7 _ _).2 ⟨Zo,Zo⟩,(X7 _ _).2 ⟨Zo,Zo⟩⟩
 unfold Y_ at ht
 split at ht
 ·rw [I9] at ht
  subst ht
  exact ⟨by simp,by simp,Wj ho⟩
 ·exact gN
theorem Af {R:Room} {o:Op} (hI:Inv R) (ok:Ok R o) (sv:Value):Good (opens R) (turns R o sv).1 (opens (turns R o sv).2):=by
 obtain ⟨p,hp⟩:=Rn (show 0≤o.peer by have:=ok.peer;omega)
 have Fw:1≤p∧p<9:=by have:=ok.peer;omega
 have ep:o.peer.toNat=p:=by rw [hp];rfl
 unfold turns
 dsimp only
 by_cases k2:o.kind=2
 ·rw [ZX k2];exact Good.nil _
 rw [Z6 k2]
 by_cases k3:o.kind=3
 ·rw [ZX k3,ep];exact zq R hI p Fw
 rw [Z6 k3]
 have k4':4≤o.kind:=by have:=ok.kind;omega
 obtain ⟨n,hn⟩:=Rn (show 0≤o.source by have:=ok.src k4';omega)
 have G_:1≤n∧n<9:=by have:=ok.src k4';omega
 have en:o.source.toNat=n:=by rw [hn];rfl
 have oI:WB o.peer 9=true:=(X7 _ _).2 ⟨Zo,Zo⟩
 have Ie:WB o.source 9=true:=(X7 _ _).2 ⟨Zo,Zo⟩
 rw [ep,en]
 by_cases k4:o.kind=4
 ·rw [ZX k4];exact Good.nil _
 rw [Z6 k4]
 have k5':5≤o.kind:=by omega
 by_cases k5:o.kind=5
 ·rw [ZX k5];exact KO R G_
 rw [Z6 k5]
 by_cases k6:o.kind=6
 ·rw [ZX k6]
  have hs:=(Pz (ok.abt k5') k6).2.1
  rw [ep,en] at hs
  have e1:=BW R (n:=n) (p:=p) ⟨true,false,o.Zu⟩ rfl Fw.1 Fw.2 G_.1 G_.2
  unfold begin
  dsimp only
  rw [ep,en]
  refine Good.cons (S1:=opens (R.ZZ n p ⟨true,false,o.Zu⟩)) ?_ ?_ (Ti _ fun t ht=>?_)
  ·refine Hm (p:=p) (n:=n) hp hn Fw.1 Fw.2 G_.1 G_.2 ?_
   show (!opens R (o.peer,o.source))=true
   rw [hp,hn,S5 Fw.1 Fw.2 G_.1 G_.2,hs];rfl
  ·rw [e1]
   unfold Xy Rl
   rw [ZX rfl]
   dsimp only
   rw [hp,hn]
  ·split at ht
   ·rw [I9] at ht
    subst ht
    refine ⟨by simp,by simp,Wj ⟨?_,oI,Ie⟩⟩
    show opens _ (o.peer,o.source)=true
    rw [hp,hn,S5 Fw.1 Fw.2 G_.1 G_.2,Wq,ZX ⟨rfl,rfl⟩]
   ·rw [I9] at ht
    subst ht
    exact ⟨by simp [asks],by simp [asks],Wc rfl⟩
 rw [Z6 k6]
 by_cases k7:o.kind=7
 ·rw [ZX k7]
  have hs:=(Uj (ok.abt k5') (Wc k7)).1
  rw [ep,en] at hs
  refine Good.cons ?_ ?_ (Good.nil _)
  ·refine Hm (p:=p) (n:=n) hp hn Fw.1 Fw.2 G_.1 G_.2 ?_
   show opens R (o.peer,o.source)=true
   rw [hp,hn,S5 Fw.1 Fw.2 G_.1 G_.2];exact hs
  ·rw [KV]
   unfold Xy Rl
   rw [Z6 (show ¬(2:Int)=1 by decide),ZX rfl]
   dsimp only
   rw [hp,hn]
 rw [Z6 k7]
 by_cases k8:o.kind=8
 ·rw [ZX k8];exact FN R true
 rw [Z6 k8]
 by_cases k9:o.kind=9
 ·rw [ZX k9];exact FN R false
 rw [Z6 k9]
 have hs:=(Uj (ok.abt k5') (Wj Zo)).1
 rw [ep,en] at hs
 have ho:opens R (o.peer,o.source)=true∧WB o.peer 9=true∧WB o.source 9=true:=⟨by rw [hp,hn,S5 Fw.1 Fw.2 G_.1 G_.2];exact hs,oI,Ie⟩
 by_cases k10:o.kind=10
 ·rw [ZX k10]
  dsimp only
  rw [M3 R n p ⟨(R.sub n p).there,true,(R.sub n p).want⟩ rfl]
  refine Ti _ fun t ht=>?_
  rw [I9] at ht
  subst ht
  exact ⟨by simp,by simp,Wj ho⟩
 rw [Z6 k10]
 by_cases k11:o.kind=11
 ·rw [ZX k11]
  dsimp only
  rw [M3 R n p ⟨(R.sub n p).there,false,(R.sub n p).want⟩ rfl]
  refine Ti _ fun t ht=>?_
  exact gN
 rw [Z6 k11]
 by_cases k12:o.kind=12
 ·rw [ZX k12]
  dsimp only
  rw [M3 R n p ⟨(R.sub n p).there,(R.sub n p).ZR,o.Zu⟩ rfl]
  refine Ti _ fun t ht=>?_
  exact gN
 rw [Z6 k12]
 exact Good.nil _
theorem rz {R:Room} (hI:Inv R) (o:Op) (sv:Value):Good (opens R) (W9 R o sv).1.1 (opens (W9 R o sv).1.2):=by
 unfold W9
 by_cases h0:Yo R o=0
 ·rw [Z6 (by simpa using h0)];exact Af hI (QH h0) sv
 ·rw [ZX h0];exact Good.nil _
theorem Ku:opens empty=fun _=>false:=by
 funext x
 rw [Ls]
 intro h
 obtain ⟨p,n,_,_,_,_,_,h5⟩:=P6.1 h
 cases h5
/-! ### all leave -/
end Go.Proofs.Rm
namespace Go.Proofs.By
open Go.Proofs.Rm (Room YE Inv WZ opens Xy O5 rq Rl ZH Y7 W9 turns)
def Xd (z:XJ):Int × Int:=(z.peer,z.source)
def XT (n at':Int) (dead:Int × Int→Bool) (ls:List XJ):List XJ:=ls.map fun z=>if z.fin=n∧dead (Xd z)=true then {z with fin:=at'} else z
theorem Ud {n at':Int} {dead:Int × Int→Bool} {ls:List XJ} (h:∀ z∈ls,z.fin=n→dead (Xd z)=false):XT n at' dead ls=ls:=by
 unfold XT
 conv=>rhs;rw [←List.map_id ls]
 refine List.map_congr_left fun z hz=>?_
 by_cases hf:z.fin=n
 ·rw [Z6 (by rw [h z hz hf];simp)];rfl
 ·rw [Z6 (fun x=>hf x.1)];rfl
theorem Hs {n at':Int} (UO:at'≠n) (d1 d2:Int × Int→Bool) (ls:List XJ):XT n at' d2 (XT n at' d1 ls)=XT n at' (fun x=>d1 x || d2 x) ls:=by
 unfold XT
 rw [List.map_map]
 refine List.map_congr_left fun z _=>?_
 have hor:∀ b c:Bool,(b || c)=true↔b=true∨c=true:=fun b c=>by rw [Bool.or_eq_true]
 by_cases h1:z.fin=n∧d1 (Xd z)=true
 ·have e1:(if z.fin=n∧d1 (Xd z)=true then {z with fin:=at'} else z)={z with fin:=at'}:=ZX h1
  have e2:(if z.fin=n∧(d1 (Xd z) || d2 (Xd z))=true then {z with fin:=at'} else z)={z with fin:=at'}:=ZX ⟨h1.1,(hor _ _).2 (Wc h1.2)⟩
  show (fun z:XJ=>if z.fin=n∧d2 (Xd z)=true then {z with fin:=at'} else z) (if z.fin=n∧d1 (Xd z)=true then {z with fin:=at'} else z)=(if z.fin=n∧(d1 (Xd z) || d2 (Xd z))=true then {z with fin:=at'} else z)
  rw [e1,e2]
  exact Z6 (fun h=>UO h.1)
 ·have e1:(if z.fin=n∧d1 (Xd z)=true then {z with fin:=at'} else z)=z:=Z6 h1
  show (fun z:XJ=>if z.fin=n∧d2 (Xd z)=true then {z with fin:=at'} else z) (if z.fin=n∧d1 (Xd z)=true then {z with fin:=at'} else z)=(if z.fin=n∧(d1 (Xd z) || d2 (Xd z))=true then {z with fin:=at'} else z)
  rw [e1]
  by_cases h2:z.fin=n∧d2 (Xd z)=true
  ·exact (ZX h2).trans (ZX ⟨h2.1,(hor _ _).2 (Wj h2.2)⟩).symm
  ·refine (Z6 h2).trans (Z6 ?_).symm
   rintro ⟨a,b⟩
   rcases (hor _ _).1 b with c|c
   ·exact h1 ⟨a,c⟩
   ·exact h2 ⟨a,c⟩
theorem Sc {n at':Int} {d1 d2:Int × Int→Bool} {ls:List XJ} (h:∀ z∈ls,z.fin=n→d1 (Xd z)=d2 (Xd z)):XT n at' d1 ls=XT n at' d2 ls:=by
 unfold XT
 refine List.map_congr_left fun z hz=>?_
 by_cases hf:z.fin=n
 ·rw [h z hz hf]
 ·rw [Z6 (fun x=>hf x.1),Z6 (fun x=>hf x.1)]
structure LI (n:Int) (S:Rm.Open) (ls:List XJ):Prop where
 iff:∀ x,S x=true↔∃ z∈ls,Xd z=x∧z.fin=n
 last:ls.Pairwise fun a b=>a.fin=n→Xd b≠Xd a
theorem LI.nil (n:Int):LI n (fun _=>false) []:=⟨fun x=>⟨fun h=>absurd h Zd,fun ⟨z,h,_⟩=>by cases h⟩,List.Pairwise.nil⟩
theorem LI.begin {n:Int} {S:Rm.Open} {ls:List XJ} (h:LI n S ls) (p s b:Int) (hS:S (p,s)=false):LI n (fun x=>decide (x=(p,s)) || S x) (ls++[⟨p,s,b,n⟩]):=by
 refine ⟨fun x=>?_,List.pairwise_append.2 ⟨h.last,List.pairwise_singleton _ _,fun a ha c hc hf he=>?_⟩⟩
 ·rw [Bool.or_eq_true,NB,h.iff x]
  constructor
  ·rintro (h1|⟨z,h1,h2⟩)
   ·exact ⟨_,List.mem_append_right _ (I9.2 rfl),h1.symm,rfl⟩
   ·exact ⟨z,List.mem_append_left _ h1,h2⟩
  ·rintro ⟨z,h1,h2,h3⟩
   rcases De.1 h1 with h1|h1
   ·exact Wj ⟨z,h1,h2,h3⟩
   ·rw [I9] at h1;subst h1;exact Wc h2.symm
 ·rw [I9] at hc
  subst hc
  have:=(h.iff (p,s)).2 ⟨a,ha,he.symm,hf⟩
  rw [hS] at this
  cases this
theorem LI.end {n at':Int} {S:Rm.Open} {ls:List XJ} (h:LI n S ls) (UO:at'≠n) (d:Int × Int→Bool):LI n (fun x=> !d x && S x) (XT n at' d ls):=by
 refine ⟨fun x=>?_,?_⟩
 ·rw [Ui,Bool.not_eq_true',h.iff x]
  constructor
  ·rintro ⟨hd,z,h1,h2,h3⟩
   refine ⟨z,?_,h2,h3⟩
   unfold XT
   rw [yG]
   exact ⟨z,h1,by rw [Z6];rintro ⟨_,hx⟩;rw [h2,hd] at hx;cases hx⟩
  ·rintro ⟨z,h1,h2,h3⟩
   unfold XT at h1
   rw [yG] at h1
   obtain ⟨y,hy,e⟩:=h1
   by_cases hc:y.fin=n∧d (Xd y)=true
   ·rw [ZX hc] at e;subst e;exact absurd h3 UO
   ·rw [Z6 hc] at e;subst e
    refine ⟨?_,y,hy,h2,h3⟩
    rw [Ls]
    intro hx
    rw [←h2] at hx
    exact hc ⟨h3,hx⟩
 ·unfold XT
  rw [List.pairwise_map]
  have hk:∀ z:XJ,Xd (if z.fin=n∧d (Xd z)=true then {z with fin:=at'} else z)=Xd z:=fun z=>by split <;> rfl
  refine h.last.imp fun {a b} Od hf=>?_
  rw [hk,hk]
  refine Od ?_
  by_cases hc:a.fin=n∧d (Xd a)=true
  ·exact hc.1
  ·rwa [Z6 hc] at hf
theorem Ht (p s at':Int) (l1:List XJ) (z:XJ) (hz:Xd z=(p,s)) (l2:List XJ) (h:∀ b∈l2,Xd b≠(p,s)):∀ k,k≤l2.length→XY p s at' (l1++z :: l2) (l1.length+1+k)=l1++{z with fin:=at'} :: l2
 | 0,_=>by
  have e1:(l1++z :: l2).getD l1.length UI=z:=by rw [Sq,bz (ZB _),Nat.sub_self];rfl
  unfold XY
  rw [e1,ZX (by unfold Xd at hz;simpa using hz),List.set_append_right _ _ (ZB _),Nat.sub_self]
  rfl
 | k+1,hk=>by
  have lV:k<l2.length:=hk
  have e1:(l1++z :: l2).getD (l1.length+1+k) UI=l2[k]:=by
   rw [Sq,bz Zo,show l1.length+1+k-l1.length=k+1 by omega,RT,VQ lV]
   rfl
  have Xh:=h l2[k] (Pw lV)
  show XY p s at' (l1++z :: l2) (l1.length+1+k+1)=_
  unfold XY
  rw [e1,Z6 (by unfold Xd at Xh;simpa using Xh)]
  exact Ht p s at' l1 z hz l2 h k Zo
theorem vh {n at':Int} {S:Rm.Open} {ls:List XJ} (h:LI n S ls) {p s:Int} (hS:S (p,s)=true):XY p s at' ls ls.length=XT n at' (fun x=>decide (x=(p,s))) ls:=by
 obtain ⟨z,hz,hk,hf⟩:=(h.iff (p,s)).1 hS
 obtain ⟨l1,l2,rfl⟩:=List.append_of_mem hz
 have hp:=List.pairwise_append.1 h.last
 have dg:=List.pairwise_cons.1 hp.2.1
 have h2:∀ b∈l2,Xd b≠(p,s):=fun b hb=>by have:=dg.1 b hb hf;rwa [hk] at this
 have h1:∀ a∈l1,a.fin=n→Xd a≠(p,s):=fun a ha hfa e=>hp.2.2 a ha z (List.mem_cons_self ..) hfa (by rw [hk,e])
 rw [show (l1++z :: l2).length=l1.length+1+l2.length by rw [SP,List.length_cons];omega,Ht p s at' l1 z hk l2 h2 _ (ZB _)]
 have e1:XT n at' (fun x=>decide (x=(p,s))) l1=l1:=Ud fun a ha hfa=>WN (h1 a ha hfa)
 have e2:XT n at' (fun x=>decide (x=(p,s))) l2=l2:=Ud fun b hb _=>WN (h2 b hb)
 unfold XT at e1 e2 ⊢
 rw [ND,List.map_cons,e1,e2,ZX ⟨hf,Ws hk⟩]
theorem Ff:∀ (ts:List YE) (S:Rm.Open),(∀ t∈ts,t.kind≠1)→∀ x,ts.foldl Xy S x=true→S x=true
 | [],_,_,_,h=>h
 | t :: ts,S,ht,x,h=>by
  have h1:=Ff ts (Xy S t) (fun u hu=>ht u (List.mem_cons_of_mem _ hu)) x h
  unfold Xy at h1
  rw [Z6 (ht t (List.mem_cons_self ..))] at h1
  by_cases h2:t.kind=2
  ·rw [ZX h2] at h1;exact (Ui _ _ |>.mp h1).2
  ·rwa [Z6 h2] at h1
theorem Pm {n at':Int} (UO:at'≠n):∀ (ts:List YE) (S:Rm.Open) (ls:List XJ),LI n S ls→O5 S ts→(∀ t∈ts,t.kind≠1) →
  Wk n at' ls ts=XT n at' (fun x=>S x && !(ts.foldl Xy S) x) ls∧LI n (ts.foldl Xy S) (Wk n at' ls ts)
 | [],S,ls,h,_,_=>⟨(Ud fun z _ _=>by show (S (Xd z) && !(S (Xd z)))=false;cases S (Xd z) <;> rfl).symm,h⟩
 | t :: ts,S,ls,h,hc,hb=>by
  have h1:=hb t (List.mem_cons_self ..)
  have hb':∀ u∈ts,u.kind≠1:=fun u hu=>hb u (List.mem_cons_of_mem _ hu)
  by_cases h2:t.kind=2
  ·have hS:S (Rl t)=true:=by
    have:=hc.1
    unfold rq at this
    rw [Z6 h1,ZX h2] at this
    exact (Ui _ _ |>.mp this).2
   have e1:Xc n at' ls t=XT n at' (fun x=>decide (x=Rl t)) ls:=by
    unfold Xc
    rw [Z6 h1,ZX h2]
    exact vh h hS
   have e2:Xy S t=fun x=> !decide (x=Rl t) && S x:=by unfold Xy;rw [Z6 h1,ZX h2]
   have hl:=h.end UO (fun x=>decide (x=Rl t))
   have ih:=Pm UO ts (Xy S t) (Xc n at' ls t) (by rw [e1,e2];exact hl) hc.2 hb'
   show Wk n at' (Xc n at' ls t) ts=XT n at' (fun x=>S x && !(ts.foldl Xy (Xy S t)) x) ls∧LI n (ts.foldl Xy (Xy S t)) (Wk n at' (Xc n at' ls t) ts)
   refine ⟨?_,ih.2⟩
   rw [ih.1,e1,Hs UO]
   refine Sc fun z _ _=>?_
   have hf:=Ff ts (Xy S t) hb' (Xd z)
   have e3:Xy S t (Xd z)=(!decide (Xd z=Rl t) && S (Xd z)):=by rw [e2]
   by_cases hk:Xd z=Rl t
   ·rw [hk] at hf e3 ⊢
    rw [Ws rfl] at e3
    have e4:ts.foldl Xy (Xy S t) (Rl t)=false:=by
     rw [Ls]
     intro hx
     have:=hf hx
     rw [e3] at this
     cases this
    rw [e4,hS,Ws rfl];rfl
   ·rw [e3,WN hk];rfl
  ·have e1:Xc n at' ls t=ls:=by unfold Xc;rw [Z6 h1,Z6 h2]
   have e2:Xy S t=S:=by unfold Xy;rw [Z6 h1,Z6 h2]
   have Mx:=hc.2
   rw [e2] at Mx
   have ih:=Pm UO ts S ls h Mx hb'
   show Wk n at' (Xc n at' ls t) ts=XT n at' (fun x=>S x && !(ts.foldl Xy (Xy S t)) x) ls∧LI n (ts.foldl Xy (Xy S t)) (Wk n at' (Xc n at' ls t) ts)
   rw [e1,e2]
   exact ih
theorem LK (n:Nat):∀ (l:List Nat) (R:Room),∀ t∈(Rm.XN n l R).1,t.kind≠1
 | [],_,t,h=>by cases h
 | p :: l,R,t,h=>by
  have h:t∈(⟨3,p,n,0,0⟩ :: ⟨2,p,n,0,0⟩ :: (Rm.XN n l (R.ZZ n p Rm.VJ)).1:List YE):=h
  rcases KG.1 h with rfl|h
  ·show (3:Int)≠1;decide
  rcases KG.1 h with rfl|h
  ·show (2:Int)≠1;decide
  ·exact LK n l _ t h
theorem MM (R:Room) (n:Nat):∀ t∈(Rm.gone R n).1,t.kind≠1:=LK n _ R
theorem Pf (p:Nat) (R:Room):∀ k,∀ t∈(Rm.ZP p R k).1,t.kind≠1
 | 0,t,h=>by cases h
 | k+1,t,h=>by
  unfold Rm.ZP at h
  dsimp only at h
  split at h
  ·rcases De.1 h with h|h
   ·exact Pf p R k t h
   ·rw [I9] at h;subst h;show (2:Int)≠1;decide
  ·exact Pf p R k t h
theorem Pg (R:Room) (p:Nat):∀ k,∀ t∈(Rm.ZM R p k).1,t.kind≠1
 | 0,t,h=>by cases h
 | k+1,t,h=>by
  unfold Rm.ZM at h
  dsimp only at h
  split at h
  ·rcases De.1 h with h|h
   ·exact Pg R p k t h
   ·exact MM _ _ t h
  ·exact Pg R p k t h
theorem Oz (R:Room) (p n:Nat):∀ t∈Rm.waits R p n,t.kind≠1:=fun t h=>by
 unfold Rm.waits at h
 split at h
 ·cases h
 ·rw [I9] at h;subst h;show (9:Int)≠1;decide
theorem Ir (R:Room) (n:Nat) (on:Bool):∀ t∈(Rm.mute R n on).1,t.kind≠1:=fun t h=>by
 have h:t∈(Rm.Z8 (R.Zt n {R.src n with ZE:=on}) n).flatMap (Rm.Y_ (R.Zt n {R.src n with ZE:=on}) n on):=h
 rw [List.mem_flatMap] at h
 obtain ⟨p,_,h⟩:=h
 unfold Rm.Y_ at h
 split at h
 ·rw [I9] at h;subst h;show (6:Int)≠1;decide
 ·rcases KG.1 h with rfl|h
  ·show (7:Int)≠1;decide
  ·exact Oz _ _ _ t h
theorem Cx (R:Room) (o:Rm.Op) (sv:Value) (h6:o.kind≠6):∀ t∈(turns R o sv).1,t.kind≠1:=by
 intro t h
 unfold turns at h
 dsimp only at h
 by_cases k2:o.kind=2
 ·rw [ZX k2] at h;cases h
 rw [Z6 k2] at h
 by_cases k3:o.kind=3
 ·rw [ZX k3] at h
  rcases De.1 h with h|h
  ·exact Pf _ _ _ t h
  ·exact Pg _ _ _ t h
 rw [Z6 k3] at h
 by_cases k4:o.kind=4
 ·rw [ZX k4] at h;cases h
 rw [Z6 k4] at h
 by_cases k5:o.kind=5
 ·rw [ZX k5] at h;exact MM _ _ t h
 rw [Z6 k5,Z6 h6] at h
 by_cases k7:o.kind=7
 ·rw [ZX k7,I9] at h;subst h;show (2:Int)≠1;decide
 rw [Z6 k7] at h
 by_cases k8:o.kind=8
 ·rw [ZX k8] at h;exact Ir _ _ _ t h
 rw [Z6 k8] at h
 by_cases k9:o.kind=9
 ·rw [ZX k9] at h;exact Ir _ _ _ t h
 rw [Z6 k9] at h
 by_cases k10:o.kind=10
 ·rw [ZX k10,I9] at h;subst h;show (4:Int)≠1;decide
 rw [Z6 k10] at h
 by_cases k11:o.kind=11
 ·rw [ZX k11] at h
  rcases KG.1 h with rfl|h
  ·show (5:Int)≠1;decide
  ·exact Oz _ _ _ t h
 rw [Z6 k11] at h
 by_cases k12:o.kind=12
 ·rw [ZX k12] at h
  rcases KG.1 h with rfl|h
  ·show (8:Int)≠1;decide
  ·exact Oz _ _ _ t h
 rw [Z6 k12] at h
 cases h
theorem Bi {R:Room} (hI:Inv R) (p x:Int):Rm.Good (opens R) (Y7 R p x).1.1 (opens (Y7 R p x).1.2)∧∀ t∈(Y7 R p x).1.1,t.kind≠1:=by
 unfold Y7
 split
 ·exact ⟨Rm.Good.nil _,fun t h=>by cases h⟩
 ·next h=>
  simp only [Bool.or_eq_true,Bool.not_eq_true',NB,not_or,Bool.not_eq_false] at h
  obtain ⟨m,hm,ht,-,he⟩:=Rm.Ra h.1.1
  have hb:1≤(Rm.of R x).1.toNat∧(Rm.of R x).1.toNat<9:=by
   have h1:=hI.Zq m ht
   rw [he]
   show 1≤(m:Int).toNat∧(m:Int).toNat<9
   omega
  exact ⟨Rm.KO R hb,MM R _⟩
theorem LJ (p:Int):∀ (l:List Int) (R:Room),Inv R→WZ R→Rm.Good (opens R) (Zv p l R).1.1 (opens (Zv p l R).1.2)∧∀ t∈(Zv p l R).1.1,t.kind≠1
 | [],R,_,_=>⟨Rm.Good.nil _,fun t h=>by cases h⟩
 | x :: l,R,hI,hs=>by
  have h1:=Bi hI p x
  have h0:=Rt p [x] R hI hs
  have h2:=LJ p l (Y7 R p x).1.2 h0.1 h0.2.1
  exact ⟨Rm.Good.append h1.1 h2.1,fun t h=>by
   rcases De.1 h with h|h
   ·exact h1.2 t h
   ·exact h2.2 t h⟩
theorem BI {R:Room} (hI:Inv R) (hs:WZ R) (p:Int) (i:R6):Rm.Good (opens R) (Yr R p i).1.1 (opens (Yr R p i).1.2)∧∀ t∈(Yr R p i).1.1,t.kind≠1:=by
 unfold Yr
 split
 ·exact ⟨Rm.Good.nil _,fun t h=>by cases h⟩
 split
 ·exact ⟨Rm.Good.nil _,fun t h=>by cases h⟩
 split
 ·exact LJ p _ R hI hs
 ·exact ⟨Rm.Good.nil _,fun t h=>by cases h⟩
theorem LU (p:Int):∀ (l:List R6) (R:Room),Inv R→WZ R→(∀ i∈l,TP i)→Rm.Good (opens R) (ZG p l R).1.1 (opens (ZG p l R).1.2)∧∀ t∈(ZG p l R).1.1,t.kind≠1
 | [],R,_,_,_=>⟨Rm.Good.nil _,fun t h=>by cases h⟩
 | x :: l,R,hI,hs,hi=>by
  have h1:=BI hI hs p x
  have h0:=KS hI hs p (hi x (List.mem_cons_self ..))
  have h2:=LU p l (Yr R p x).1.2 h0.1 h0.2.1 (fun i h=>hi i (List.mem_cons_of_mem _ h))
  exact ⟨Rm.Good.append h1.1 h2.1,fun t h=>by
   rcases De.1 h with h|h
   ·exact h1.2 t h
   ·exact h2.2 t h⟩
end Go.Proofs.By
namespace Go.Proofs.Rm
open Go.RowKit Go.Proofs.Heap Go.Proofs.Mem
open Go.Proofs.N_ (may key)
def findAt {α:Type} (p:α→Bool) (l:List α):Int:=match l.findIdx? p with|some i=>i|none=> -1
theorem O8 {α:Type} {p:α→Bool} {l:List α} {k:Nat} (hk:k<l.length) (hp:p l[k]=true) (hn:∀ j (h:j<l.length),j<k→p l[j]=false):findAt p l=k:=by
 unfold findAt
 have:l.findIdx? p=some k:=by
  rw [List.findIdx?_eq_some_iff_getElem]
  exact ⟨hk,hp,fun j hj=>by rw [hn j Zo hj];simp⟩
 rw [this]
theorem SR {α:Type} {p:α→Bool} {l:List α} (hn:∀ j (h:j<l.length),p l[j]=false):findAt p l = -1:=by
 unfold findAt
 have:l.findIdx? p=none:=by
  rw [List.findIdx?_eq_none_iff]
  intro x hx
  obtain ⟨j,hj,rfl⟩:=List.getElem_of_mem hx
  exact hn j hj
 rw [this]
theorem Hw {α β:Type} (f:α→β) (p:β→Bool) (l:List α):findAt p (l.map f)=findAt (fun x=>p (f x)) l:=by
 unfold findAt
 rw [List.findIdx?_map]
 rfl
theorem Yh {α:Type} {p:α→Bool} {l:List α} (h:0≤findAt p l):∃ (k:Nat) (hk:k<l.length),findAt p l=k∧p l[k]=true∧∀ j (h:j<l.length),j<k→p l[j]=false:=by
 unfold findAt at h ⊢
 cases hf:l.findIdx? p with
 | none=>rw [hf] at h;exact absurd h Zd
 | some k=>
  obtain ⟨hk,hp,hn⟩:=List.findIdx?_eq_some_iff_getElem.1 hf
  exact ⟨k,hk,rfl,hp,fun j h hj=>by have:=hn j hj;simpa using this⟩
def ZU.Yx (T:ZU) (n:Int):Int:=findAt (fun x:WU=>x.num == n) T.ZK
def ZU.Zq (T:ZU) (n:Int):Int:=findAt (fun x:XK=>x.num == n) T.Yv
def ZU.Zx (T:ZU) (p s:Int):Int:=findAt (fun x:WJ=>x.peer == p && x.source == s) T.Z8
def Vm:XK:=⟨0,0,[],false⟩
def ZU.Xb (T:ZU) (n:Int):XK:=T.Yv.getD (T.Zq n).toNat Vm
def ZU.owner (T:ZU) (n:Int):Int:=if T.Zq n<0 then 0 else (T.Xb n).own
def ZU.V7 (T:ZU) (n:Int) (k:Nat):List Nat:=((List.range k).map (· + 1)).filter fun p:Nat=>decide (0≤T.Zx p n)
def ZU.ZH (T:ZU) (n:Int):List Nat:=T.V7 n 8
theorem Ec (T:ZU) (n:Int) (k:Nat):T.V7 n (k+1)=T.V7 n k++if 0≤T.Zx ((k:Int)+1) n then [k+1] else []:=by
 unfold ZU.V7
 rw [Aq,ND,List.filter_append]
 congr 1
 have:((k+1:Nat):Int)=(k:Int)+1:=by omega
 by_cases h:0≤T.Zx ((k:Int)+1) n <;> simp [h]
theorem U8 (T:ZU) (n:Int) (k:Nat):(T.V7 n k).length≤k:=by
 unfold ZU.V7
 have:=List.length_filter_le (fun p:Nat=>decide (0≤T.Zx p n)) ((List.range k).map (· + 1))
 rw [UM,List.length_range] at this
 exact this
def ZU.Su (T:ZU) (x:Int):Int:=findAt (fun s:XK=>s.ss.contains x) T.Yv
def ZU.of (T:ZU) (x:Int):Int × Int × Bool:=if T.Su x<0 then (0,0,false) else ((T.Yv.getD (T.Su x).toNat Vm).num,index (T.Yv.getD (T.Su x).toNat Vm).ss x,true)
def ZU.Wb (T:ZU) (l:List Int) (i:Nat):Bool:=(l.take i).contains (l.getD i 0) || (T.of (l.getD i 0)).2.2
def ZU.Uq (T:ZU) (o:Op) (at':Int):Int:=
 if o.ZO.length<1∨3<o.ZO.length then 5
 else if o.ZO.any (fun s=>decide (s<2) || decide (3221225472≤s)) then 5
 else if 0≤at' then 9
 else if (List.range o.ZO.length).any (T.Wb o.ZO) then 9 else 0
def td:WJ:=⟨0,0,0,false⟩
def ZU.Sl (T:ZU) (p s:Int):WJ:=T.Z8.getD (T.Zx p s).toNat td
def QX (s:XK) (q:Int):Bool:=decide (0≤q) && decide (q<s.ss.length)
def ZU.XL (T:ZU) (o:Op) (s:XK):Int:=
 if o.kind=5∨o.kind=8∨o.kind=9 then
  (if s.own≠o.peer then 10 else if o.kind=8∧s.ZE=true then 9 else if o.kind=9∧s.ZE=false then 11 else 0)
 else if o.kind=6 then
  (if s.own=o.peer then 10 else if 0≤T.Zx o.peer o.source then 9 else if QX s o.Zu then 0 else 5)
 else if T.Zx o.peer o.source<0 then 8
 else if o.kind=10∧(T.Sl o.peer o.source).ZR=true then 9
 else if o.kind=11∧(T.Sl o.peer o.source).ZR=false then 11
 else if o.kind=12∧QX s o.Zu=false then 5
 else if o.kind=12∧(T.Sl o.peer o.source).want=o.Zu then 9
 else 0
def ZU.Yo (T:ZU) (o:Op):Int:=
 if o.kind<2∨12<o.kind then 4
 else if o.peer<1∨8<o.peer then 5
 else if o.kind=2 then
  (if 0≤T.Yx o.peer then 9 else if !may o.name then 12 else if T.ZK.any (fun x=>decide (key x.name=key o.name)) then 9 else 0)
 else if T.Yx o.peer<0 then 8
 else if o.kind=3 then 0
 else if o.source<1∨8<o.source then 5
 else if o.kind=4 then T.Uq o (T.Zq o.source)
 else if T.Zq o.source<0 then 8
 else T.XL o (T.Xb o.source)
def ZU.ask (T:ZU) (x:WJ):YE:=⟨9,(T.Xb x.source).own,(T.Xb x.source).num,0,(T.Xb x.source).ss.getD x.want.toNat 0⟩
def ZU.Xk (T:ZU) (p s:Int):ZU:={T with Z8:=T.Z8.eraseIdx (T.Zx p s).toNat}
def ZU.UT (T:ZU) (n:Int):ZU:={T with Yv:=T.Yv.eraseIdx (T.Zq n).toNat}
def ZU.Po (T:ZU) (n:Int):ZU:={T with ZK:=T.ZK.eraseIdx (T.Yx n).toNat}
def ZU.XY (n:Int):List Nat→ZU→List YE × ZU
 | [],T=>([],T)
 | p :: l,T=>let x:=ZU.XY n l (T.Xk p n);(⟨3,p,n,0,0⟩ :: ⟨2,p,n,0,0⟩ :: x.1,x.2)
def ZU.YD (T:ZU) (n:Int):List YE × ZU:=((ZU.XY n (T.ZH n) T).1,(ZU.XY n (T.ZH n) T).2.UT n)
structure ZT (w:World) (b:Nat) (T:ZU):Prop where
 Wh:∃ pv sv uv,w.heap[b]?=some (.cells #[pv,sv,uv] 91)∧Sp w pv sv uv T
theorem ZT.lt {w:World} {b:Nat} {T:ZU} (h:ZT w b T):b<w.heap.size:=by
 obtain ⟨_,_,_,hc,_⟩:=h.Wh
 rcases Nat.lt_or_ge b w.heap.size with h|h
 ·exact h
 ·rw [Gt h] at hc;cases hc
theorem ZT.below {w w':World} {b:Nat} {T:ZU} (h:ZT w b T) (hb:Below w w w'):ZT w' b T:=by
 have hl:=h.lt
 obtain ⟨pv,sv,uv,hc,ht⟩:=h.Wh
 exact ⟨pv,sv,uv,by rw [hb.block b hl];exact hc,ht.below hb⟩
theorem cell_of {w:World} {b:Nat} {cs:Array Value} {e:TypeId} (h:w.heap[b]?=some (.cells cs e)) (j:Nat):w.cell? ⟨b,j,none⟩=cs[j]?:=by
 simp only [World.cell?,h]
 rfl
theorem Uh (b:Nat) (T:ZU) (n:Int) (w:World) (hR:ZT w b T) :
  Calls Tryz.prog 48 (Ql (some ⟨b,0,none⟩) n) w fun e w'=>e = .returned (.int .i64 (T.Yx n))∧Below w w w':=by
 obtain ⟨pv,sv,uv,YJ,X_⟩:=hR.Wh
 have hb:=hR.lt
 have hlen:=X_.ZK.len
 have c0:=cell_of YJ 0
 have HP:Hid (∀ w',Below w w w'→Row w' 103 pv T.ZK.length (T.ZK.flatMap Zf)):=fun w' h=>X_.ZK.below h
 obtain ⟨pa,pc,rfl,_⟩:=id X_.ZK
 have JW:Hid (T.Yx n=findAt (fun x:WU=>x.num == n) T.ZK):=rfl
 clear hR X_ YJ
 generalize T.ZK=P at *
 go_enter Tryz.func48,Tryz.ntmps48
 go_wp2
 go_loopw [12] (fun i w'=>∃ k:Nat,k≤P.length∧i = .int .i64 k∧Below w w w'∧Hid (∀ j (h:j<P.length),j<k→(fun x:WU=>x.num == n) P[j]=false)) (fun i _=>P.length-(intOf i).toNat)
 case atStart=>exact ⟨0,Zo,rfl,YG _ _,fun j h hj=>by omega⟩
 case round=>
  obtain ⟨k,hk,rfl,XS,HN⟩:=hrel
  by_cases W_:k<P.length
  ·obtain ⟨g,off,e1,hc⟩:=L_ (HP.o wr XS) Zo
   subst e1
   obtain ⟨d0,d1⟩:=hc k P[k] (VQ W_)
   have HH:Hid ((fun x:WU=>x.num == n) P[k]=true→T.Yx n=k):=fun h=>by rw [JW.o];exact O8 W_ h HN.o
   have HM:Hid ((fun x:WU=>x.num == n) P[k]=false→∀ j (h:j<P.length),j<k+1→(fun x:WU=>x.num == n) P[j]=false):=fun h j hj Ke=>by
    by_cases e:j=k
    ·subst e;exact h
    ·exact HN.o j hj Zo
   clear hc
   generalize P[k]=x at *
   obtain ⟨x0,x1⟩:=x
   dsimp only at d0 d1 HH HM
   exact kI
  ·have HF:Hid (T.Yx n = -1):=by show _=_;rw [JW.o];exact SR fun j h=>HN.o j h Zo
   go_wp2
   go_ret
   exact ⟨Y5 HF.o.symm,XS⟩
theorem W8 (b:Nat) (T:ZU) (n:Int) (w:World) (hR:ZT w b T) :
  Calls Tryz.prog 49 (Ql (some ⟨b,0,none⟩) n) w fun e w'=>e = .returned (.int .i64 (T.Zq n))∧Below w w w':=by
 obtain ⟨pv,sv,uv,YJ,X_⟩:=hR.Wh
 have hb:=hR.lt
 obtain ⟨P,Vd,Z7,MR⟩:=X_.Yv
 have hlen:=Z7.len
 have c0:=cell_of YJ 1
 have HP:Hid (∀ w',Below w w w'→Row w' 108 sv P.length (P.flatMap ZJ)):=fun w' h=>Z7.below h
 have HV:Hid (∀ m∈P,∃ a k c,m.2 = .slice a k c):=fun m hm=>by
  obtain ⟨a,c,h,_⟩:=MR m hm
  exact ⟨a,_,c,h⟩
 obtain ⟨pa,pc,rfl,_⟩:=id Z7
 have JW:Hid (T.Zq n=findAt (fun x:XK × Value=>x.1.num == n) P):=by show _=_;unfold ZU.Zq;rw [←Vd,Hw]
 clear hR X_ YJ Vd Z7 MR
 go_enter Tryz.func49,Tryz.ntmps49
 go_wp2
 go_loopw [12] (fun i w'=>∃ k:Nat,k≤P.length∧i = .int .i64 k∧Below w w w'∧Hid (∀ j (h:j<P.length),j<k→(fun x:XK × Value=>x.1.num == n) P[j]=false)) (fun i _=>P.length-(intOf i).toNat)
 case atStart=>exact ⟨0,Zo,rfl,YG _ _,fun j h hj=>by omega⟩
 case round=>
  obtain ⟨k,hk,rfl,XS,HN⟩:=hrel
  by_cases W_:k<P.length
  ·obtain ⟨g,off,e1,hc⟩:=U3 (HP.o wr XS) Zo
   subst e1
   obtain ⟨d0,d1,d2,d3⟩:=hc k P[k] (VQ W_)
   obtain ⟨va,vk,vc,hv⟩:=HV.o P[k] (Pw W_)
   rw [hv] at d2
   have HH:Hid ((fun x:XK × Value=>x.1.num == n) P[k]=true→T.Zq n=k):=fun h=>by rw [JW.o];exact O8 W_ h HN.o
   have HM:Hid ((fun x:XK × Value=>x.1.num == n) P[k]=false→∀ j (h:j<P.length),j<k+1→(fun x:XK × Value=>x.1.num == n) P[j]=false):=fun h j hj Ke=>by
    by_cases e:j=k
    ·subst e;exact h
    ·exact HN.o j hj Zo
   clear hc hv
   generalize P[k]=x at *
   obtain ⟨⟨x0,x1,x2,x3⟩,x4⟩:=x
   dsimp only at d0 d1 d3 HH HM
   exact kI
  ·have HF:Hid (T.Zq n = -1):=by show _=_;rw [JW.o];exact SR fun j h=>HN.o j h Zo
   go_wp2
   go_ret
   exact ⟨Y5 HF.o.symm,XS⟩
theorem Xg (b:Nat) (T:ZU) (p n:Int) (w:World) (hR:ZT w b T) :
  Calls Tryz.prog 51 (Qs (some ⟨b,0,none⟩) p n) w fun e w'=>e = .returned (.int .i64 (T.Zx p n))∧Below w w w':=by
 obtain ⟨pv,sv,uv,YJ,X_⟩:=hR.Wh
 have hb:=hR.lt
 have hlen:=X_.Z8.len
 have c0:=cell_of YJ 2
 have HP:Hid (∀ w',Below w w w'→Row w' 105 uv T.Z8.length (T.Z8.flatMap ZL)):=fun w' h=>X_.Z8.below h
 obtain ⟨pa,pc,rfl,_⟩:=id X_.Z8
 have JW:Hid (T.Zx p n=findAt (fun x:WJ=>x.peer == p && x.source == n) T.Z8):=rfl
 clear hR X_ YJ
 generalize T.Z8=P at *
 go_enter Tryz.func51,Tryz.ntmps51
 go_wp2
 go_loopw [14] (fun i w'=>∃ k:Nat,k≤P.length∧i = .int .i64 k∧Below w w w'∧Hid (∀ j (h:j<P.length),j<k→(fun x:WJ=>x.peer == p && x.source == n) P[j]=false)) (fun i _=>P.length-(intOf i).toNat)
 case atStart=>exact ⟨0,Zo,rfl,YG _ _,fun j h hj=>by omega⟩
 case round=>
  obtain ⟨k,hk,rfl,XS,HN⟩:=hrel
  by_cases W_:k<P.length
  ·obtain ⟨g,off,e1,hc⟩:=Td (HP.o wr XS) Zo
   subst e1
   obtain ⟨d0,d1,d2,d3⟩:=hc k P[k] (VQ W_)
   have HH:Hid ((fun x:WJ=>x.peer == p && x.source == n) P[k]=true→T.Zx p n=k):=fun h=>by rw [JW.o];exact O8 W_ h HN.o
   have HM:Hid ((fun x:WJ=>x.peer == p && x.source == n) P[k]=false→∀ j (h:j<P.length),j<k+1→(fun x:WJ=>x.peer == p && x.source == n) P[j]=false):=fun h j hj Ke=>by
    by_cases e:j=k
    ·subst e;exact h
    ·exact HN.o j hj Zo
   clear hc
   generalize P[k]=x at *
   obtain ⟨x0,x1,x2,x3⟩:=x
   dsimp only at d0 d1 d2 d3 HH HM
   by_cases hx:x0=p
   ·by_cases hy:x1=n
    ·have HF:=Zh (HH.o (by rw [hx,hy];simp))
     subst hx hy
     go_wp2
     go_ret
     exact ⟨Y5 HF.o.symm,XS.alloc XS.size _⟩
    ·have Dh:(x1 == n)=false:=by rw [WT];exact hy
     have HF:=Zh (HM.o (by rw [Dh,Bool.and_false]))
     subst hx
     clear hy
     exact nD
   ·have Dh:(x0 == p)=false:=by rw [WT];exact hx
    have HF:=Zh (HM.o (by rw [Dh,Bool.false_and]))
    clear hx
    exact nD
  ·have HF:Hid (T.Zx p n = -1):=by show _=_;rw [JW.o];exact SR fun j h=>HN.o j h Zo
   go_wp2
   go_ret
   exact ⟨Y5 HF.o.symm,XS⟩
end Go.Proofs.Rm
namespace Go.Proofs.Rm
open Go.RowKit Go.Proofs.Heap Go.Proofs.Mem
theorem VC {l:List (XK × Value)} {k:Nat} (h:k<l.length):(l.map Prod.fst).getD k Vm=l[k].1:=by
 rw [Sq,List.getElem?_map,VQ h];rfl
theorem getD_at {l:List Int} {k:Nat} (h:k<l.length):l.getD k 0=l[k]:=by
 rw [Sq,VQ h];rfl
theorem NW (b:Nat) (T:ZU) (x:Int) (w:World) (hR:ZT w b T) :
  Calls Tryz.prog 74 (Jc (some ⟨b,0,none⟩) x) w fun e w'=>e = .returned (.tuple (Q1 (T.of x).1 (T.of x).2.1 (T.of x).2.2))∧Below w w w':=by
 obtain ⟨pv,sv,uv,YJ,X_⟩:=hR.Wh
 have hb:=hR.lt
 obtain ⟨P,Vd,Z7,MR⟩:=X_.Yv
 have hlen:=Z7.len
 have c0:=cell_of YJ 1
 have HP:Hid (∀ w',Below w w w'→Row w' 108 sv P.length (P.flatMap ZJ)∧∀ m∈P,Row w' 66 m.2 m.1.ss.length (Zb m.1.ss)):=fun w' h=>⟨Z7.below h,fun m hm=>(MR m hm).below h⟩
 obtain ⟨pa,pc,rfl,_⟩:=id Z7
 have JW:Hid (T.Su x=findAt (fun s:XK × Value=>s.1.ss.contains x) P):=by show _=_;unfold ZU.Su;rw [←Vd,Hw]
 have HOF:Hid (T.of x=if T.Su x<0 then (0,0,false) else ((T.Yv.getD (T.Su x).toNat Vm).num,index (T.Yv.getD (T.Su x).toNat Vm).ss x,true)):=rfl
 have I6:=Zh Vd
 clear hR X_ YJ Vd Z7 MR
 go_enter Tryz.func74,Tryz.ntmps74
 go_wp2
 go_loopw [16] (fun i w'=>∃ k:Nat,k≤P.length∧i = .int .i64 k∧Below w w w'∧Hid (∀ j (h:j<P.length),j<k→(fun s:XK × Value=>s.1.ss.contains x) P[j]=false)) (fun i _=>P.length-(intOf i).toNat)
 case atStart=>exact ⟨0,Zo,rfl,YG _ _,fun j h hj=>by omega⟩
 case round=>
  obtain ⟨k,hk,rfl,XS,HN⟩:=hrel
  by_cases W_:k<P.length
  ·obtain ⟨g,off,e1,hc⟩:=U3 (HP.o wr XS).1 Zo
   subst e1
   obtain ⟨d0,d1,d2,d3⟩:=hc k P[k] (VQ W_)
   have hr:=(HP.o wr XS).2 P[k] (Pw W_)
   have HH:Hid ((fun s:XK × Value=>s.1.ss.contains x) P[k]=true→T.of x=(P[k].1.num,index P[k].1.ss x,true)):=fun h=>by
    have e:=O8 (p:=fun s:XK × Value=>s.1.ss.contains x) W_ h HN.o
    rw [HOF.o,JW.o,e,Z6 Zo,Xf,←I6.o,VC W_]
   have HM:Hid ((fun s:XK × Value=>s.1.ss.contains x) P[k]=false→∀ j (h:j<P.length),j<k+1→(fun s:XK × Value=>s.1.ss.contains x) P[j]=false):=fun h j hj Ke=>by
    by_cases e:j=k
    ·subst e;exact h
    ·exact HN.o j hj Zo
   clear hc
   generalize P[k]=y at *
   obtain ⟨⟨x0,x1,x2,x3⟩,x4⟩:=y
   dsimp only at d0 d1 d2 d3 HH HM hr
   have pQ:=hr.len
   obtain ⟨ya,yc,rfl,_⟩:=id hr
   have Tf:Hid (0<x2.length→∃ g off,ya=some ⟨g,off,none⟩∧g<wr.heap.size∧∀ j,j<x2.length→wr.cell? ⟨g,off+j,none⟩=some (.int .u32 (x2.getD j 0))):=fun h=>by
    obtain ⟨g,off,cap,e1,_,_,hg,hc⟩:=RQ hr h
    exact ⟨g,off,(slice_inj e1).1,hg,hc⟩
   clear hr
   obtain ⟨wo,rfl⟩:∃ wo:World,wo=wr:=⟨_,rfl⟩
   go_wp2
   go_loop [23] (fun i=>∃ m:Nat,m≤x2.length∧i = .int .i64 m∧Hid (∀ j,j<m→x2.getD j 0≠x)) (fun i=>x2.length-(intOf i).toNat)
   case atStart=>exact ⟨0,Zo,rfl,fun j hj=>by omega⟩
   case round=>
    obtain ⟨m,hm,rfl,HNO⟩:=hrel
    by_cases My:m<x2.length
    ·obtain ⟨g3,dO,e3,hg3,pN⟩:=Tf.o Zo
     subst e3
     have hd:=pN m My
     clear pN
     by_cases hx:x2.getD m 0=x
     ·have HF:=Zh (HH.o (by rw [List.contains_iff_mem,←hx,getD_at My];exact Pw My))
      have HI:Hid (index x2 x=m):=index_hit My hx HNO.o
      rw [hx] at hd
      clear hx
      go_wp2
      go_ret3
      exact ⟨by rw [HF.o,HI.o];rfl,XS.alloc XS.size _⟩
     ·have Dh:(x2.getD m 0 == x)=false:=by rw [WT];exact hx
      have HX:=Zh hx
      clear hx
      generalize hy:x2.getD m 0=y at *
      have HY:=Zh hy
      clear hy
      go_wp2
      go_round
      case rel=>exact ⟨m+1,Zo,Zn,fun j hj=>by by_cases Bu:j<m;exact HNO.o j Bu;rw [show j=m by omega,HY.o];exact HX.o⟩
      case measure=>simp [intOf];omega
    ·have HF:=Zh (HM.o (by
      rw [Ls]
      intro h
      rw [List.contains_iff_mem] at h
      obtain ⟨j,hj,e⟩:=List.getElem_of_mem h
      exact HNO.o j Zo (by rw [getD_at hj];exact e)))
     exact nD
  ·have HF:Hid (T.of x=(0,0,false)):=by
    show _=_
    rw [HOF.o,JW.o,SR (fun j h=>HN.o j h Zo),ZX Zd]
   go_wp2
   go_ret3
   exact ⟨by rw [HF.o];rfl,XS⟩
theorem RS (b:Nat) (T:ZU) (n:Int) (w:World) (hR:ZT w b T) :
  Calls Tryz.prog 75 (Ql (some ⟨b,0,none⟩) n) w fun e w'=>e = .returned (.int .i64 (T.owner n))∧Below w w w':=by
 have CS:=Zh (W8 b T n w hR)
 have M8:Hid (T.owner n=if T.Zq n<0 then 0 else (T.Yv.getD (T.Zq n).toNat Vm).own):=rfl
 have HAT:Hid (0≤T.Zq n→∃ k:Nat,k<T.Yv.length∧T.Zq n=k):=fun h=>by
  obtain ⟨k,hk,e,_⟩:=Yh h
  exact ⟨k,hk,e⟩
 have hb:=hR.lt
 have HR:=Zh hR
 clear hR
 by_cases jv:T.Zq n<0
 ·have HF:Hid (T.owner n=0):=by show _=_;rw [M8.o,ZX jv]
  generalize T.Zq n=q at *
  go_enter Tryz.func75,Tryz.ntmps75
  go_wp2_with (go_at_call 49;refine CS.o.mono ?_;rintro e w1 ⟨rfl,Zj⟩)
  go_ret
  exact ⟨Y5 HF.o.symm,Zj⟩
 ·obtain ⟨k,hk,e⟩:=HAT.o Zo
  have HF:Hid (T.owner n=(T.Yv.getD k Vm).own):=by show _=_;rw [M8.o,Z6 jv,e,Xf]
  rw [e] at CS
  clear e jv HAT M8
  go_enter Tryz.func75,Tryz.ntmps75
  go_wp2_with fail
  refine CS.o.mono ?_
  rintro e w1 ⟨rfl,Zj⟩
  obtain ⟨pv,sv,uv,YJ,X_⟩:=(HR.o.below Zj).Wh
  obtain ⟨P,Vd,Z7,MR⟩:=X_.Yv
  have W_:k<P.length:=by rw [←Vd,UM] at hk;exact hk
  have hlen:=Z7.len
  have c0:=cell_of YJ 1
  obtain ⟨pa,pc,rfl,_⟩:=id Z7
  obtain ⟨g,off,e1,hc⟩:=U3 Z7 Zo
  subst e1
  obtain ⟨d0,d1,d2,d3⟩:=hc k P[k] (VQ W_)
  have HX:Hid ((T.Yv.getD k Vm).own=P[k].1.own):=by show _=_;rw [←Vd,VC W_]
  clear hc d0 d2 d3 X_ YJ Vd Z7 MR
  generalize P[k].1.own=ow at *
  go_wp2
  go_ret
  exact ⟨Y5 (by rw [HF.o,HX.o]),Zj⟩
theorem NA (b:Nat) (T:ZU) (n:Int) (w:World) (hR:ZT w b T) :
  Calls Tryz.prog 50 (Ql (some ⟨b,0,none⟩) n) w fun e w'=>(∃ v,e = .returned v∧Row w' 3 v (T.ZH n).length (ints (T.ZH n)))∧Below w w w':=by
 have HR:=Zh hR
 have hb:=hR.lt
 have HS:Hid (T.ZH n=T.V7 n 8):=rfl
 clear hR
 go_enter Tryz.func50,Tryz.ntmps50
 go_wp2
 go_loopw [5,6] (fun v i w'=>∃ k:Nat,k≤8∧i = .int .i64 ((k:Int)+1)∧Below w w w'∧w'.ownsRow w 3 1 v (T.V7 n k).length (ints (T.V7 n k))) (fun _ i _=>9-(intOf i).toNat)
 case atStart=>exact ⟨0,Zo,rfl,YG _ _,Us _ _ _ _⟩
 case round=>
  obtain ⟨k,hk,rfl,XS,YO⟩:=hrel
  have Yu:=Zh YO
  clear YO
  by_cases pP:k<8
  ·have CS:=Zh (Xg b T ((k:Int)+1) n wr (HR.o.below XS))
   have JY:=Zh (Ec T n k)
   have ME:=U8 T n k
   by_cases hs:0≤T.Zx ((k:Int)+1) n
   ·have HF:Hid (T.V7 n (k+1)=T.V7 n k++[k+1]):=by show _=_;rw [JY.o,ZX hs]
    generalize T.Zx ((k:Int)+1) n=q at *
    generalize T.V7 n k=G at *
    go_wp2_with (first|(go_at_call 51;refine CS.o.mono ?_;rintro e w1 ⟨rfl,Zj⟩)|(at_builtin;refine Za rfl (.tmp 16) (.tmp 18) 72 rfl w.heap.size xy _ G.length (ints G) rfl ?a1 _ 1 [.int .i64 ((k:Int)+1)] rfl ?a2 rfl ?a4 ?a5 ?a6 ?a7 (fun v' w2 Mv HG=>?_)))
    case a1=>exact (ZF Yu.o Zj).alloc _
    case a2=>exact YL _ _ 1 _ [.int .i64 ((k:Int)+1)] Zd Zi
    case a4=>intro u hu;simp at hu;subst hu;rfl
    case a5=>omega
    case a6=>omega
    case a7=>have h1:=XS.size;have h2:=Zj.size;simp;omega
    go_roundw
    case rel=>
     refine ⟨k+1,Zo,Zn,?_,?_⟩
     ·have h1:=XS.trans (Zj.mono XS.size)
      have h2:=h1.alloc h1.size (.cells #[.int .i64 ((k:Int)+1)] 3)
      exact h2.grown HG.o h2.size (Yw Yu.o)
     ·rw [HF.o,SP,Kj]
      exact Mv.o
    case measure=>simp [intOf];omega
   ·have HF:Hid (T.V7 n (k+1)=T.V7 n k):=by show _=_;rw [JY.o,Z6 hs,Df]
    generalize T.Zx ((k:Int)+1) n=q at *
    go_wp2_with (go_at_call 51;refine CS.o.mono ?_;rintro e w1 ⟨rfl,Zj⟩)
    go_roundw
    case rel=>
     refine ⟨k+1,Zo,Zn,XS.trans (Zj.mono XS.size),?_⟩
     rw [HF.o]
     exact ZF Yu.o Zj
    case measure=>simp [intOf];omega
  ·have lV:k=8:=by omega
   subst lV
   go_wp2
   go_ret
   exact ⟨⟨_,rfl,by rw [HS.o];exact Row.ZV Yu.o⟩,XS⟩
end Go.Proofs.Rm
