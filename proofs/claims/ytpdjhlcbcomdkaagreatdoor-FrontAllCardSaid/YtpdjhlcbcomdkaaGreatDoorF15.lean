/- Part of a proof. -/
import Derived.Test.YtpdjhlcbcomdkaaGreatDoorF14
set_option linter.unusedVariables false
set_option linter.unusedSimpArgs false
set_option maxRecDepth 100000
set_option maxHeartbeats 16000000
open Go Go.Q Go.Qr
namespace Go.Proofs.Rm
open Go.RowKit Go.Proofs.Heap Go.Proofs.Mem
theorem EB (T:ZU) (l:List Int) (k:Nat):T.Wb l k=((l.take k).contains (l.getD k 0) || (T.of (l.getD k 0)).2.2):=rfl
theorem I3 (b:Nat) (T:ZU) (o:Op) (at':Int) (sa ba:Option Addr) (sc bl bc:Nat) (w:World) (hR:ZT w b T)
  (Z7:Yf w (.slice sa o.ZO.length sc) o.ZO.length (Zb o.ZO)) :
  Calls Tryz.prog 122 (Q3 (some ⟨b,0,none⟩) (Ji o sa o.ZO.length sc ba bl bc) at') w fun e w'=>e = .returned (.int .i64 (T.Uq o at'))∧Below w w w':=by
 have CO:=Zh (fun (w1:World) (x:Int) (h:Below w w w1)=>NW b T x w1 (hR.below h))
 obtain ⟨kd,p,n,q,nm,ss⟩:=o
 have hb:=hR.lt
 have HP:Hid (T.Uq ⟨kd,p,n,q,nm,ss⟩ at'=(if ss.length<1∨3<ss.length then 5 else if ss.any (fun s=>decide (s<2) || decide (3221225472≤s)) then 5 else if 0≤at' then 9 else if (List.range ss.length).any (T.Wb ss) then 9 else 0)):=rfl
 dsimp only at *
 have hlen:=Z7.len
 clear hR
 generalize T.Uq ⟨kd,p,n,q,nm,ss⟩ at'=Ep at *
 by_cases h1:ss.length<1
 ·have HF:Hid (Ep=5):=by show _=_;rw [HP.o,ZX (Wc h1)]
  exact kX
 by_cases h2:3<ss.length
 ·have HF:Hid (Ep=5):=by show _=_;rw [HP.o,ZX (Wj h2)]
  exact kX
 have qu:Hid (Ep=(if ss.any (fun s=>decide (s<2) || decide (3221225472≤s)) then 5 else if 0≤at' then 9 else if (List.range ss.length).any (T.Wb ss) then 9 else 0)):=by
  show _=_;rw [HP.o,Z6 Zo]
 obtain ⟨g,off,cap,e1,_,_,hg,YX⟩:=QF Z7 Zo
 cases e1
 have HC:=Zh YX
 have WS:=Zh Z7
 clear YX Z7 HP
 go_enter Tryz.func122,Tryz.ntmps122
 go_wp2
 go_loop [29] (fun i=>∃ k:Nat,k≤ss.length∧i = .int .i64 k∧Hid (∀ j,j<k→2≤ss.getD j 0∧ss.getD j 0<3221225472)) (fun i=>ss.length-(intOf i).toNat)
 case atStart=>exact ⟨0,TS _,rfl,fun j hj=>by omega⟩
 case round=>
  obtain ⟨k,hk,rfl,Le⟩:=hrel
  by_cases W_:k<ss.length
  ·exact aW
  ·have gm:Hid (Ep=if 0≤at' then 9 else if (List.range ss.length).any (T.Wb ss) then 9 else 0):=by
    exact kM
   clear Le qu
   by_cases UO:0≤at'
   ·have HF:Hid (Ep=9):=by show _=_;rw [gm.o,ZX UO]
    go_wp2
    go_ret
    exact ⟨Y5 HF.o.symm,Z' _ _⟩
   ·have eD:Hid (Ep=if (List.range ss.length).any (T.Wb ss) then 9 else 0):=by show _=_;rw [gm.o,Z6 UO]
    clear gm
    go_wp2
    go_loopw [45] (fun i w'=>∃ k:Nat,k≤ss.length∧i = .int .i64 k∧Below w w w'∧w.heap.size<w'.heap.size∧w'.cell? ⟨w,5,none⟩=some (.slice (some ⟨g,off,none⟩) ss.length sc)∧Hid (∀ j,j<k→T.Wb ss j=false)) (fun i _=>ss.length-(intOf i).toNat)
    case atStart=>exact ⟨0,TS _,rfl,Z' _ _,by simp,by simp,fun j hj=>by omega⟩
    case round=>
     obtain ⟨k,hk,rfl,XS,Vr,Eb,Le⟩:=hrel
     by_cases W_:k<ss.length
     ·have Fy:=WS.o.below XS
      obtain ⟨g',off',cap',e1,_,_,cD,YX⟩:=QF Fy Zo
      cases e1
      have hc:=YX k W_
      have HCR:=Zh YX
      have km:=Zh (CO.o wr (ss.getD k 0) XS)
      have mY:=Zh (EB T ss k)
      have ql:Hid (T.Wb ss k=true→Ep=9):=by
       intro h
       rw [eD.o,ZX]
       rw [List.any_eq_true]
       exact ⟨k,by simpa using W_,h⟩
      clear YX Fy
      generalize T.of (ss.getD k 0)=O at *
      obtain ⟨o1,o2,o3⟩:=O
      dsimp only at km mY
      have fU:Hid ((ss.take k).contains (ss.getD k 0)=true↔∃ j,j<k∧ss.getD j 0=ss.getD k 0):=by
       rw [Hid,List.contains_iff_mem,List.mem_iff_getElem]
       constructor
       ·rintro ⟨j,hj,e⟩
        rw [TU] at hj
        rw [List.getElem_take] at e
        exact ⟨j,Zo,by rw [getD_at Zo];exact e⟩
       ·rintro ⟨j,hj,e⟩
        exact ⟨j,by rw [TU];omega,by rw [List.getElem_take,←getD_at Zo];exact e⟩
      generalize (ss.take k).contains (ss.getD k 0)=cn at *
      generalize uz:ss.getD k 0=x at *
      clear uz
      obtain ⟨wo,rfl⟩:∃ wo:World,wo=wr:=⟨_,rfl⟩
      go_wp2
      go_loop [55] (fun i=>∃ m:Nat,m≤k∧i = .int .i64 m∧Hid (∀ j,j<m→ss.getD j 0≠x)) (fun i=>k-(intOf i).toNat)
      case atStart=>exact ⟨0,Zo,rfl,fun j hj=>by omega⟩
      case round=>
       obtain ⟨m,hm,rfl,HN⟩:=hrel
       by_cases lZ:m<k
       ·have hd:=HCR.o m Zo
        by_cases hx:ss.getD m 0=x
        ·have HF:=Zh (ql.o (by rw [mY.o,fU.o.2 ⟨m,lZ,hx⟩];rfl))
         rw [hx] at hd
         clear hx
         go_wp2
         go_ret
         exact ⟨Y5 HF.o.symm,XS⟩
        ·have Dh:(x == ss.getD m 0)=false:=by rw [WT];exact fun e=>hx e.symm
         have HX:=Zh hx
         clear hx
         generalize hy:ss.getD m 0=y at *
         have HY:=Zh hy
         clear hy
         go_wp2
         go_round
         case rel=>exact ⟨m+1,Zo,Zn,fun j hj=>by by_cases Bu:j<m;exact HN.o j Bu;rw [show j=m by omega,HY.o];exact HX.o⟩
         case measure=>simp [intOf];omega
       ·have oD:cn=false:=by
         rw [Ls]
         intro h
         obtain ⟨j,hj,e⟩:=fU.o.1 h
         exact HN.o j Zo e
        cases o3
        ·have HF:Hid (T.Wb ss k=false):=by show _=_;rw [mY.o,oD];rfl
         clear oD
         go_wp2_with (go_at_call 74;refine km.o.mono ?_;rintro e w2 ⟨rfl,Y0⟩;have PT:=(Y0.cell (p:=⟨w,5,none⟩) Vr).trans Eb)
         exact kK
        ·have HF:=Zh (ql.o (by rw [mY.o,Bool.or_true]))
         clear oD
         go_wp2_with (go_at_call 74;refine km.o.mono ?_;rintro e w2 ⟨rfl,Y0⟩)
         go_ret
         exact ⟨Y5 HF.o.symm,XS.trans (Y0.mono XS.size)⟩
     ·exact kO
theorem EN (b:Nat) (T:ZU) (o:Op) (s:XK) (sa ba ca:Option Addr) (sl sc bl bc cc:Nat) (w:World) (hk:o.kind=5∨o.kind=8∨o.kind=9) :
  Calls Tryz.prog 123 (Q9 (some ⟨b,0,none⟩) (Ji o sa sl sc ba bl bc) (Qj s.num s.own ca s.ss.length cc s.ZE)) w fun e w'=>e = .returned (.int .i64 (T.XL o s))∧Below w w w':=by
 obtain ⟨kd,p,n,q,nm,ss⟩:=o
 obtain ⟨s0,s1,s2,s3⟩:=s
 dsimp only at *
 have HW:Hid (T.XL ⟨kd,p,n,q,nm,ss⟩ ⟨s0,s1,s2,s3⟩=(if s1≠p then 10 else if kd=8∧s3=true then 9 else if kd=9∧s3=false then 11 else 0)):=by
  show _=_;unfold ZU.XL;dsimp only;rw [ZX hk]
 generalize T.XL ⟨kd,p,n,q,nm,ss⟩ ⟨s0,s1,s2,s3⟩=wv at *
 rcases hk with rfl|rfl|rfl
 all_goals
  go_enter Tryz.func123,Tryz.ntmps123
  go_wp2
  all_goals (go_ret;refine ⟨Y5 ?_,((YG _ _).alloc (ZB _) _).alloc Zi _⟩)
  all_goals (rw [HW.o];first|(simp [*];done)|(simp_all;done)|skip)
theorem M7 (b:Nat) (T:ZU) (o:Op) (s:XK) (sa ba ca:Option Addr) (sl sc bl bc cc:Nat) (w:World) (hR:ZT w b T) (hk:o.kind=6) :
  Calls Tryz.prog 123 (Q9 (some ⟨b,0,none⟩) (Ji o sa sl sc ba bl bc) (Qj s.num s.own ca s.ss.length cc s.ZE)) w fun e w'=>e = .returned (.int .i64 (T.XL o s))∧Below w w w':=by
 have CS:=Zh (fun (w1:World) (h:Below w w w1)=>Xg b T o.peer o.source w1 (hR.below h))
 obtain ⟨kd,p,n,q,nm,ss⟩:=o
 obtain ⟨s0,s1,s2,s3⟩:=s
 dsimp only at *
 subst hk
 have HW:Hid (T.XL ⟨6,p,n,q,nm,ss⟩ ⟨s0,s1,s2,s3⟩=(if s1=p then 10 else if 0≤T.Zx p n then 9 else if decide (0≤q) && decide (q<s2.length) then 0 else 5)):=rfl
 clear hR
 generalize T.XL ⟨6,p,n,q,nm,ss⟩ ⟨s0,s1,s2,s3⟩=wv at *
 generalize T.Zx p n=k at *
 generalize s2.length=sln at *
 go_enter Tryz.func123,Tryz.ntmps123
 go_wp2_with (go_at_call 51;refine (CS.o _ (((YG _ _).alloc (ZB _) _).alloc Zi _)).mono ?_;rintro e w1 ⟨rfl,Zj⟩;obtain ⟨MQ,KP⟩:=TD Zj;have TJ:=Zj.size)
 all_goals (go_ret;refine ⟨Y5 ?_,(((YG _ _).alloc (ZB _) _).alloc Zi _).trans (Zj.mono VB)⟩)
 all_goals (rw [HW.o];first|(simp [*];done)|(simp_all;done)|(simp_all;omega)|skip)
theorem G8 (b:Nat) (T:ZU) (o:Op) (s:XK) (sa ba ca:Option Addr) (sl sc bl bc cc:Nat) (w:World) (hR:ZT w b T) (hk:o.kind=7∨o.kind=10∨o.kind=11∨o.kind=12) (hn:T.Zx o.peer o.source<0) :
  Calls Tryz.prog 123 (Q9 (some ⟨b,0,none⟩) (Ji o sa sl sc ba bl bc) (Qj s.num s.own ca s.ss.length cc s.ZE)) w fun e w'=>e = .returned (.int .i64 (T.XL o s))∧Below w w w':=by
 have CS:=Zh (fun (w1:World) (h:Below w w w1)=>Xg b T o.peer o.source w1 (hR.below h))
 have HW:Hid (T.XL o s=8):=by show _=_;unfold ZU.XL;rw [Z6 Zo,Z6 Zo,ZX hn]
 obtain ⟨kd,p,n,q,nm,ss⟩:=o
 obtain ⟨s0,s1,s2,s3⟩:=s
 dsimp only at *
 clear hR
 generalize T.XL ⟨kd,p,n,q,nm,ss⟩ ⟨s0,s1,s2,s3⟩=wv at *
 generalize T.Zx p n=k at *
 generalize s2.length=sln at *
 rcases hk with rfl|rfl|rfl|rfl
 all_goals
  go_enter Tryz.func123,Tryz.ntmps123
  go_wp2_with (go_at_call 51;refine (CS.o _ (((YG _ _).alloc (ZB _) _).alloc Zi _)).mono ?_;rintro e w1 ⟨rfl,Zj⟩;obtain ⟨MQ,KP⟩:=TD Zj;have TJ:=Zj.size)
  all_goals (go_ret;exact ⟨Y5 HW.o.symm,(((YG _ _).alloc (ZB _) _).alloc Zi _).trans (Zj.mono VB)⟩)
end Go.Proofs.Rm
namespace Go.Proofs.Rm
open Go.RowKit Go.Proofs.Heap Go.Proofs.Mem
theorem PJ {l:List WJ} {k:Nat} (h:k<l.length):l.getD k td=l[k]:=by
 rw [Sq,VQ h];rfl
theorem I4 (b:Nat) (T:ZU) (o:Op) (s:XK) (sa ba ca:Option Addr) (sl sc bl bc cc:Nat) (w:World) (hR:ZT w b T) (hk:o.kind=7∨o.kind=10∨o.kind=11∨o.kind=12) (hn:0≤T.Zx o.peer o.source) :
  Calls Tryz.prog 123 (Q9 (some ⟨b,0,none⟩) (Ji o sa sl sc ba bl bc) (Qj s.num s.own ca s.ss.length cc s.ZE)) w fun e w'=>e = .returned (.int .i64 (T.XL o s))∧Below w w w':=by
 obtain ⟨k,W_,SL,_,_⟩:=Yh hn
 have SL:T.Zx o.peer o.source=k:=SL
 have CS:=Zh (fun (w1:World) (h:Below w w w1)=>Xg b T o.peer o.source w1 (hR.below h))
 have HR:=Zh hR
 have HW:Hid (T.XL o s=(if o.kind=10∧T.Z8[k].ZR=true then 9 else if o.kind=11∧T.Z8[k].ZR=false then 11 else if o.kind=12∧QX s o.Zu=false then 5 else if o.kind=12∧T.Z8[k].want=o.Zu then 9 else 0)):=by
  show _=_;unfold ZU.XL ZU.Sl;rw [Z6 Zo,Z6 Zo,Z6 Zo,SL,Xf,PJ W_]
 rw [SL] at CS
 obtain ⟨kd,p,n,q,nm,ss⟩:=o
 obtain ⟨s0,s1,s2,s3⟩:=s
 dsimp only at *
 unfold QX at HW
 dsimp only at HW
 clear hR SL hn
 generalize T.XL ⟨kd,p,n,q,nm,ss⟩ ⟨s0,s1,s2,s3⟩=wv at *
 generalize s2.length=sln at *
 rcases hk with rfl|rfl|rfl|rfl
 all_goals
  go_enter Tryz.func123,Tryz.ntmps123
  go_wp2_with fail
  refine (CS.o _ (((YG _ _).alloc (ZB _) _).alloc Zi _)).mono ?_
  rintro e w1 ⟨rfl,Zj⟩
  obtain ⟨MQ,KP⟩:=TD Zj
  have TJ:=Zj.size
  obtain ⟨pv,sv,uv,YJ,X_⟩:=((HR.o.below (((YG _ _).alloc (ZB _) _).alloc Zi _)).below Zj).Wh
  have m1:=X_.Z8.len
  have c2:=cell_of YJ 2
  have Z7:=X_.Z8
  obtain ⟨pa,pc,rfl,_⟩:=id Z7
  obtain ⟨g,off,e1,hc⟩:=Td Z7 Zo
  subst e1
  obtain ⟨d0,d1,d2,d3⟩:=hc k T.Z8[k] (VQ W_)
  have Wy:=Zh Zj
  clear hc YJ X_ Z7 Zj
  generalize T.Z8[k].want=wt at *
  generalize T.Z8[k].ZR=ps at *
  go_wp2_with fail
 all_goals try (go_quiet (fail);go_wp2)
 all_goals (go_ret;refine ⟨Y5 ?_,?_⟩)
 all_goals try (first|exact (((YG _ _).alloc (ZB _) _).alloc Zi _).trans (Wy.o.mono VB)|exact below_drewN ((((YG _ _).alloc (ZB _) _).alloc Zi _).trans (Wy.o.mono VB)) _)
 all_goals (rw [HW.o];first|(simp [*];done)|(simp_all;done)|(simp_all;omega)|skip)
def ZU.ZP (p:Int) (T:ZU):Nat→List YE × ZU
 | 0=>([],T)
 | k+1=>let x:=ZU.ZP p T k;if 0≤x.2.Zx p ((k:Int)+1) then (x.1++[⟨2,p,(k:Int)+1,0,0⟩],x.2.Xk p ((k:Int)+1)) else x
def ZU.ZM (p:Int) (T:ZU):Nat→List YE × ZU
 | 0=>([],T)
 | k+1=>let x:=ZU.ZM p T k;if x.2.owner ((k:Int)+1)=p then (x.1++(x.2.YD ((k:Int)+1)).1,(x.2.YD ((k:Int)+1)).2) else x
def ZU.leave (T:ZU) (p:Int):List YE × ZU:=
 ((ZU.ZP p T 8).1++(ZU.ZM p (ZU.ZP p T 8).2 8).1,(ZU.ZM p (ZU.ZP p T 8).2 8).2.Po p)
def ZU.ZN (T:ZU) (n:Int) (on:Bool):ZU:={T with Yv:=T.Yv.set (T.Zq n).toNat {T.Xb n with ZE:=on} }
def ZU.Y_ (T:ZU) (n:Int) (on:Bool) (p:Nat):List YE:=
 if on then [⟨6,p,n,0,0⟩] else ⟨7,p,n,0,0⟩ :: (if (T.Sl p n).ZR then [] else [T.ask (T.Sl p n)])
def ZU.mute (T:ZU) (n:Int) (on:Bool):List YE × ZU:=(((T.ZN n on).ZH n).flatMap ((T.ZN n on).Y_ n on),T.ZN n on)
def ZU.ZZ (T:ZU) (p n:Int) (x:WJ):ZU:={T with Z8:=T.Z8.set (T.Zx p n).toNat x}
def ZU.changed (T:ZU) (o:Op) (kind:Int):WJ:=
 if kind=4 then {T.Sl o.peer o.source with ZR:=true} else if kind=5 then {T.Sl o.peer o.source with ZR:=false} else {T.Sl o.peer o.source with want:=o.Zu}
def ZU.change (T:ZU) (o:Op) (kind:Int):List YE × ZU:=
 let x:=T.changed o kind
 let T1:=T.ZZ o.peer o.source x
 (⟨kind,o.peer,o.source,if kind=8 then o.Zu else 0,0⟩ :: (if x.ZR || (T1.Xb o.source).ZE then [] else [T1.ask x]),T1)
def ZU.R_ (T:ZU) (x:WU):ZU:={T with ZK:=T.ZK++[x]}
def ZU.O4 (T:ZU) (x:XK):ZU:={T with Yv:=T.Yv++[x]}
def ZU.Wz (T:ZU) (x:WJ):ZU:={T with Z8:=T.Z8++[x]}
def ZU.subscribe (T:ZU) (o:Op):List YE × ZU:=
 let x:WJ:=⟨o.peer,o.source,o.Zu,false⟩
 (⟨1,o.peer,o.source,o.Zu,0⟩ :: (if ((T.Wz x).Xb o.source).ZE then [⟨6,o.peer,o.source,0,0⟩] else [(T.Wz x).ask x]),T.Wz x)
def ZU.turns (T:ZU) (o:Op):List YE × ZU:=
 if o.kind=2 then ([],T.R_ ⟨o.peer,o.name⟩)
 else if o.kind=3 then T.leave o.peer
 else if o.kind=4 then ([],T.O4 ⟨o.source,o.peer,o.ZO,false⟩)
 else if o.kind=5 then T.YD o.source
 else if o.kind=6 then T.subscribe o
 else if o.kind=7 then ([⟨2,o.peer,o.source,0,0⟩],T.Xk o.peer o.source)
 else if o.kind=8 then T.mute o.source true
 else if o.kind=9 then T.mute o.source false
 else if o.kind=10 then T.change o 4
 else if o.kind=11 then T.change o 5
 else T.change o 8
def ZU.W9 (T:ZU) (o:Op):(List YE × ZU) × Int:=if T.Yo o≠0 then (([],T),T.Yo o) else (T.turns o,0)
def ZU.Y7 (T:ZU) (p x:Int):(List YE × ZU) × Int:=
 if !(T.of x).2.2 || decide (T.Yx p<0) || decide (T.owner (T.of x).1≠p) then (([],T),8) else (T.YD (T.of x).1,0)
def ZU.YU (T:ZU) (k:Nat):List WU:=(List.range k).flatMap fun n:Nat=>if 0≤T.Yx ((n:Int)+1) then [T.ZK.getD (T.Yx ((n:Int)+1)).toNat ⟨0,[]⟩] else []
def ZU.Vi (T:ZU) (k:Nat):List XK:=(List.range k).flatMap fun n:Nat=>if 0≤T.Zq ((n:Int)+1) then [T.Xb ((n:Int)+1)] else []
def ZU.Vy (T:ZU) (n:Int) (l:List Nat):List WJ:=l.map fun p:Nat=>T.Sl p n
def ZU.Xw (T:ZU) (k:Nat):List WJ:=(List.range k).flatMap fun n:Nat=>T.Vy ((n:Int)+1) (T.ZH ((n:Int)+1))
def ZU.table (T:ZU):ZU:=⟨T.YU 8,T.Vi 8,T.Xw 8⟩
def small:Nat:=100000
structure ZU.Small (T:ZU):Prop where
 ZK:T.ZK.length≤small
 Yv:T.Yv.length≤small
 Z8:T.Z8.length≤small
theorem ZT.G' {w:World} {b:Nat} {T:ZU} (h:ZT w b T) {e:TypeId} (he:e≠91):∀ k c fr,k=b→w.heap[k]?≠some (.cells c e fr):=by
 obtain ⟨_,_,_,hc,_⟩:=h.Wh
 intro k c fr hk
 subst hk
 rw [hc]
 exact VX (fun h=>he h.symm)
theorem ZT.YS {w:World} {b:Nat} {T:ZU} (h:ZT w b T) (j:Nat):w.frozen? ⟨b,j,none⟩=false:=by
 obtain ⟨_,_,_,hc,_⟩:=h.Wh
 simp [World.frozen?,hc]
theorem ZT.Cm {w:World} {b:Nat} {T:ZU} (h:ZT w b T) {v:Value} {l:List WU} (hr:Row w 103 v l.length (l.flatMap Zf)):ZT (w.setCell ⟨b,0,none⟩ v) b {T with ZK:=l}:=by
 have t1:=h.G' (e:=103) Zd
 have t2:=h.G' (e:=108) Zd
 have t3:=h.G' (e:=105) Zd
 have t4:=h.G' (e:=66) Zd
 obtain ⟨pv,sv,uv,hc,ha,⟨ms,Zj,Y0,Ut⟩,TH⟩:=h.Wh
 have hf:Fr w (· = b) w (w.setCell ⟨b,0,none⟩ v):=(Fr.refl _ _ _).setAt _ _
 refine ⟨v,sv,uv,by simp [World.setCell,Array.getElem?_modify,hc],?_⟩
 exact ⟨hr.fr hf (ZB _) t1,⟨ms,Zj,Y0.fr hf (ZB _) t2,fun m hm=>(Ut m hm).fr hf (ZB _) t4⟩,TH.fr hf (ZB _) t3⟩
theorem ZT.JD {w:World} {b:Nat} {T:ZU} (h:ZT w b T) {v:Value} (ms:List (XK × Value)) {l:List XK} (hl:ms.map Prod.fst=l) (hr:Row w 108 v ms.length (ms.flatMap ZJ)) (MR:∀ m∈ms,Row w 66 m.2 m.1.ss.length (Zb m.1.ss)) :
  ZT (w.setCell ⟨b,1,none⟩ v) b {T with Yv:=l}:=by
 have t1:=h.G' (e:=103) Zd
 have t2:=h.G' (e:=108) Zd
 have t3:=h.G' (e:=105) Zd
 have t4:=h.G' (e:=66) Zd
 obtain ⟨pv,sv,uv,hc,ha,_,TH⟩:=h.Wh
 have hf:Fr w (· = b) w (w.setCell ⟨b,1,none⟩ v):=(Fr.refl _ _ _).setAt _ _
 refine ⟨pv,v,uv,by simp [World.setCell,Array.getElem?_modify,hc],?_⟩
 exact ⟨ha.fr hf (ZB _) t1,⟨ms,hl,hr.fr hf (ZB _) t2,fun m hm=>(MR m hm).fr hf (ZB _) t4⟩,TH.fr hf (ZB _) t3⟩
theorem ZT.Mi {w:World} {b:Nat} {T:ZU} (h:ZT w b T) {v:Value} {l:List WJ} (hr:Row w 105 v l.length (l.flatMap ZL)):ZT (w.setCell ⟨b,2,none⟩ v) b {T with Z8:=l}:=by
 have t1:=h.G' (e:=103) Zd
 have t2:=h.G' (e:=108) Zd
 have t3:=h.G' (e:=105) Zd
 have t4:=h.G' (e:=66) Zd
 obtain ⟨pv,sv,uv,hc,ha,⟨ms,Zj,Y0,Ut⟩,TH⟩:=h.Wh
 have hf:Fr w (· = b) w (w.setCell ⟨b,2,none⟩ v):=(Fr.refl _ _ _).setAt _ _
 refine ⟨pv,sv,v,by simp [World.setCell,Array.getElem?_modify,hc],?_⟩
 exact ⟨ha.fr hf (ZB _) t1,⟨ms,Zj,Y0.fr hf (ZB _) t2,fun m hm=>(Ut m hm).fr hf (ZB _) t4⟩,hr.fr hf (ZB _) t3⟩
end Go.Proofs.Rm
namespace Go.Proofs.Rm
open Go.RowKit Go.Proofs.Heap Go.Proofs.Mem
theorem Ug (l:List WJ):∀ u∈l.flatMap ZL,u.oneCell'=true:=by
 intro u hu
 obtain ⟨x,_,hx⟩:=List.mem_flatMap.1 hu
 exact S7 x u hx
theorem Uf (l:List WJ):(l.flatMap ZL).length=l.length*4:=XZ ZL 4 (fun _=>rfl) l
theorem KN {α:Type} (f:α→List Value) (k:Nat) (hk:∀ x,(f x).length=k) (l:List α) (n:Nat):(l.flatMap f).take (n*k)=(l.take n).flatMap f:=by
 by_cases h:n≤l.length
 ·conv=>lhs;rw [←List.take_append_drop n l,QL]
  rw [List.take_append_of_le_length ni,I8 ni]
 ·rw [I8 (by rw [XZ f k hk];exact Nat.mul_le_mul_right k Zo),I8 Zo]
theorem KM {α:Type} (f:α→List Value) (k:Nat) (hk:∀ x,(f x).length=k) (l:List α) (n:Nat):(l.flatMap f).drop (n*k)=(l.drop n).flatMap f:=by
 by_cases h:n≤l.length
 ·conv=>lhs;rw [←List.take_append_drop n l,QL]
  rw [List.drop_append_of_le_length ni,List.drop_of_length_le ni,KF]
 ·rw [List.drop_of_length_le (by rw [XZ f k hk];exact Nat.mul_le_mul_right k Zo),List.drop_of_length_le Zo];rfl
theorem UC {w w3:World} {cs:Array Value} {e:TypeId} (h:Below (w.heap.size+1) (w.alloc (.cells cs e)) w3) (j:Nat):w3.cell? ⟨w,j,none⟩=cs[j]?∧w3.frozen? ⟨w,j,none⟩=false:=by
 have hb:=h.block w.heap.size Zo
 rw [Z5] at hb
 exact ⟨by simp only [World.cell?,hb];rfl,by simp [World.frozen?,hb]⟩
def TQ (w:World) (g:Nat):Prop:=∃ c f,w.heap[g]?=some (.cells c 158 f)
theorem TQ.set {w:World} {g:Nat} (h:TQ w g) (a:Addr) (u:Value):TQ (w.setCell a u) g:=by
 obtain ⟨c,f,h⟩:=h
 unfold TQ
 by_cases e:a.block=g
 ·subst e
  simp [World.setCell,Array.getElem?_modify,h]
 ·refine ⟨c,f,?_⟩
  simp [World.setCell,Array.getElem?_modify,e,h]
theorem TQ.drew {w:World} {g:Nat} (h:TQ w g):TQ w.drew g:=h
theorem TQ.Z9 {w w3:World} {cs:Array Value} (h:Below (w.heap.size+1) (w.alloc (.cells cs 158)) w3):TQ w3 w.heap.size:=by
 have hb:=h.block w.heap.size Zo
 rw [Z5] at hb
 exact ⟨_,_,hb⟩
theorem ZT.Mj {w:World} {b:Nat} {T:ZU} (h:ZT w b T) {g:Nat} (hg:TQ w g) (j:Nat) (u:Value):ZT (w.setCell ⟨g,j,none⟩ u) b T:=by
 obtain ⟨c,f,hg⟩:=hg
 have hf:Fr w (· = g) w (w.setCell ⟨g,j,none⟩ u):=(Fr.refl _ _ _).setAt _ _
 have Jv:∀ e,158≠e→∀ k c fr,k=g→w.heap[k]?≠some (.cells c e fr):=by
  intro e he k c fr hk
  subst hk
  rw [hg]
  exact VX he
 have hb:=h.lt
 obtain ⟨pv,sv,uv,hc,ht⟩:=h.Wh
 exact ⟨pv,sv,uv,by rw [hf.block b hb (fun e=>Jv _ Zd b _ _ e hc)];exact hc,ht.fr hf (ZB _) (Jv _ Zd) (Jv _ Zd) (Jv _ Zd) (Jv _ Zd)⟩
theorem ZT.drew {w:World} {b:Nat} {T:ZU} (h:ZT w b T):ZT w.drew b T:=h.below (YG _ _).drew
theorem ZT.alloc {w:World} {b:Nat} {T:ZU} (h:ZT w b T) (o:Obj):ZT (w.alloc o) b T:=h.below (Z' _ _)
theorem MH (b:Nat) (T:ZU) (p n:Int) (w:World) (hR:ZT w b T) (hs:T.Small) (hh:0≤T.Zx p n) :
  Calls Tryz.prog 100 (Qs (some ⟨b,0,none⟩) p n) w fun e w'=>e = .returned (WG ⟨2,p,n,0,0⟩)∧ZT w' b (T.Xk p n)∧Fr w (· = b) w w':=by
 obtain ⟨k,hk,SL,-,-⟩:=Yh hh
 have SL:T.Zx p n=k:=SL
 have CS:=Zh (fun (w1:World) (h:Below w w w1)=>Xg b T p n w1 (hR.below h))
 rw [SL] at CS
 have hb:=hR.lt
 have HR:=Zh hR
 have HE:Hid (T.Xk p n={T with Z8:=T.Z8.take k++T.Z8.drop (k+1)}):=by show _=_;unfold ZU.Xk;rw [SL,Xf,List.eraseIdx_eq_take_drop_succ]
 have VV:=hs.Z8
 unfold small at VV
 obtain ⟨pv,sv,uv,YJ,X_⟩:=hR.Wh
 have Z7:=X_.Z8
 have hlen:=Z7.len
 obtain ⟨a,cap,rfl,PV,xH,-,-⟩:=id Z7
 obtain ⟨a1,dQ,Ce,_⟩:=RM VZ a T.Z8.length cap k Zo
 obtain ⟨a2,tK,Cf,_⟩:=Tt VZ a T.Z8.length cap (k+1) Zo PV
 rw [show (((k+1:Nat):Int))=(k:Int)+1 by omega] at tK
 have AY:Hid (∀ w',Below w w w'→Row w' 105 (.slice a1 k cap) k ((T.Z8.take k).flatMap ZL)):=fun w' h=>by
  have:=Ce w' _ Zo (Uf _) (Z7.below h)
  rwa [KN ZL 4 (fun _=>rfl)] at this
 have EZ:Hid (∀ w',Below w w w'→Row w' 105 (.slice a2 (T.Z8.length-(k+1)) (cap-(k+1))) (T.Z8.length-(k+1)) ((T.Z8.drop (k+1)).flatMap ZL)):=fun w' h=>by
  have:=Cf w' _ (Uf _) (Z7.below h)
  rwa [KM ZL 4 (fun _=>rfl)] at this
 have Lb:Hid (((T.Z8.take k).flatMap ZL).length=k*4):=by show _=_;rw [Uf,TU,Nat.min_eq_left Zo]
 have Dc:Hid (((T.Z8.drop (k+1)).flatMap ZL).length=(T.Z8.length-(k+1))*4):=by show _=_;rw [Uf,RU]
 have kv:Hid ((T.Z8.take k++T.Z8.drop (k+1)).length=k+(T.Z8.length-(k+1))):=by show _=_;rw [SP,TU,RU,Nat.min_eq_left Zo]
 have HC:Hid (∀ w',Below w w w'→w'.cell? ⟨b,2,none⟩=some (.slice a T.Z8.length cap)):=fun w' h=>(h.cell (p:=⟨b,2,none⟩) hb).trans (cell_of YJ 2)
 have Dk:k+1≤T.Z8.length:=hk
 clear hR X_ YJ Z7 Ce Cf SL hh hs
 generalize T.Z8.length=N at *
 have KP:=HR.o.YS 2
 have HFZ:Hid (∀ w',Below w w w'→w'.frozen? ⟨b,2,none⟩=false):=fun w' h=>(h.frozen (p:=⟨b,2,none⟩) hb).trans KP
 clear KP
 go_enter Tryz.func100,Tryz.ntmps100
 go_wp2_with fail
 have uE:Hid (∀ w',Below (w.heap.size+1) (w.alloc (.cells (Qi 0 0 0 0 0) 158)) w'→Below w w w'):=fun w' h=>(Z' w _).trans (h.mono Zo)
 refine (CS.o _ (Z' _ _)).mono ?_
 rintro e w1 ⟨rfl,Zj⟩
 have XS:Below (w.heap.size+1) (w.alloc (.cells (Qi 0 0 0 0 0) 158)) w1:=by have:=Zj;rwa [World.size_alloc] at this
 have SF:=XS.size
 rw [World.size_alloc] at SF
 have dI:IntKind.i64.wrap ((k:Int)+1)=(k:Int)+1:=Ua _ Zo
 have Mx:=HC.o _ (uE.o _ XS)
 clear Zj
 go_wp2_with fail
 go_region_law (first|(refine Zw Zr (.const (.slice none 0 0)) (.tmp 18) 49 Zr (w.heap.size+1) VZ (.slice none 0 0) 0 [] Zr (Us _ _ _ _) (.slice a1 k cap) k ((T.Z8.take k).flatMap ZL) Zr ?_ Lb.o (Ug _) Zo Zo ?_ ?_;(exact AY.o _ (uE.o _ A2));(exact Rh (Nat.le_of_eq (World.size_alloc w _).symm) (Below.size A2));intro v1 w2 Dy Pt;have YF:Below (w.heap.size+1) (w.alloc (.cells (Qi 0 0 0 0 0) 158)) w2:=Below.grown A2 Pt.o (Rh (Nat.le_of_eq (World.size_alloc w _).symm) (Below.size A2)) (Yw (Us w1 _ 105 4));have c2:=HC.o _ (uE.o _ YF))|(refine Zw Zr (.tmp 19) (.tmp 26) 49 Zr (w.heap.size+1) VZ v1 (0+k) ([]++(T.Z8.take k).flatMap ZL) Zr ?_ (.slice a2 (N-(k+1)) (cap-(k+1))) (N-(k+1)) ((T.Z8.drop (k+1)).flatMap ZL) Zr ?_ Dc.o (Ug _) Zo Zo ?_ ?_;(first|exact Dy.o|exact XH Dy.o);(exact EZ.o _ (uE.o _ A2));(exact Rh (Nat.le_of_eq (World.size_alloc w _).symm) (Below.size A2));intro v2 w3 Mv Li;have WX:Below (w.heap.size+1) (w.alloc (.cells (Qi 0 0 0 0 0) 158)) w3:=Below.grown A2 Li.o (Rh (Nat.le_of_eq (World.size_alloc w _).symm) (Below.size A2)) (Yw Dy.o);have c3:=HC.o _ (uE.o _ WX);have f3:=HFZ.o _ (uE.o _ WX);obtain ⟨va,vc,hv⟩:=Yz Mv.o;subst hv))
 all_goals
  have d0:w3.cell? ⟨w,0,none⟩=some (.int .i64 0):=(UC WX 0).1
  have d1:w3.cell? ⟨w,1,none⟩=some (.int .i64 0):=(UC WX 1).1
  have d2:w3.cell? ⟨w,2,none⟩=some (.int .i64 0):=(UC WX 2).1
  have d3:w3.cell? ⟨w,3,none⟩=some (.int .i64 0):=(UC WX 3).1
  have d4:w3.cell? ⟨w,4,none⟩=some (.int .u32 0):=(UC WX 4).1
  have z0:=(UC WX 0).2
  have z1:=(UC WX 1).2
  have z2:=(UC WX 2).2
  have z3:=(UC WX 3).2
  have z4:=(UC WX 4).2
  have Xh:¬b=w.heap.size:=by omega
  have hne2:¬w.heap.size=b:=by omega
  go_wp2
  have Z7:=Row.ZV Mv.o
  rw [KF,←QL,OD] at Z7
  have GJ:ZT w3 b T:=HR.o.below (uE.o _ WX)
  have Ni:k+(N-(k+1))=(T.Z8.take k++T.Z8.drop (k+1)).length:=by rw [kv.o]
  rw [Ni] at Z7
  have Bx:=GJ.Mi Z7
  rw [←Ni] at Bx
  refine VR (v:=WG ⟨2,p,n,0,0⟩) (by simp [results,Tryz.results100,go_sem,WG,d0,d1,d2,d3,d4]) rfl ⟨rfl,?_,?_⟩
  ·rw [HE.o]
   have ht:=(TQ.Z9 WX)
   exact ((((Bx.Mj (ht.set _ _) 0 _).Mj ((ht.set _ _).set _ _) 1 _).Mj (((ht.set _ _).set _ _).set _ _) 2 _).Mj ((((ht.set _ _).set _ _).set _ _).set _ _) 3 _).Mj (((((ht.set _ _).set _ _).set _ _).set _ _).set _ _) 4 _
  ·exact (((((((Fr.Z9 _ (uE.o _ WX)).setAt _ _).setCell (Wc (ZB _)) _).setCell (Wc (ZB _)) _).setCell (Wc (ZB _)) _).setCell (Wc (ZB _)) _).setCell (Wc (ZB _)) _)
open Go.Proofs.N_ (may key Xe)
structure KX (w:World) (g:Nat) (nm nk:List UInt8) (w':World):Prop where
 c1:w'.cell? ⟨w,4,none⟩=some (.string (str nm))
 c2:w'.cell? ⟨g,1,none⟩=some (.string (str nk))
 YI:Below w w w'
 s1:w.heap.size<w'.heap.size
 s2:g<w'.heap.size
section
variable {w w1 w2:World} {g:Nat} {nm nk:List UInt8}
theorem KX.below (h:KX w g nm nk w1) (hb:Below w1 w1 w2):KX w g nm nk w2:=
 ⟨(hb.cell (p:=⟨w,4,none⟩) h.s1).trans h.c1,(hb.cell (p:=⟨g,1,none⟩) h.s2).trans h.c2,h.YI.trans (hb.mono h.YI.size),Px h.s1 hb.size,Px h.s2 hb.size⟩
theorem KX.drew (h:KX w g nm nk w1):KX w g nm nk w1.drew:=h.below (YG _ _).drew
theorem KX.all (h:KX w g nm nk w1):w1.cell? ⟨w,4,none⟩=some (.string (str nm))∧w1.cell? ⟨g,1,none⟩=some (.string (str nk))∧KX w g nm nk w1:=⟨h.c1,h.c2,h⟩
theorem KX.mk' {y0:Int} (h1:Below w w w1) (h2:w.heap.size<w1.heap.size) (h3:w1.cell? ⟨w,4,none⟩=some (.string (str nm))) {e:TypeId}:KX w w1.heap.size nm nk (w1.alloc (.cells (Qw y0 (str nk)) e)):=by
 refine ⟨?_,?_,h1.alloc h1.size _,by simp;omega,by simp⟩
 ·rw [(Z' w1 _).cell (p:=⟨w,4,none⟩) h2];exact h3
 ·exact cell_of (Z5 w1 _) 1
end
theorem Ck (b:Nat) (T:ZU) (o:Op) (sa ba:Option Addr) (sl sc bl bc:Nat) (w:World) (hR:ZT w b T) (hT:Xe w) (Vz:o.name.length<9223372036854775807) (TI:∀ x∈T.ZK,x.name.length<9223372036854775807) (hk:o.kind=2) (Fw:1≤o.peer∧o.peer≤8) :
  Calls Tryz.prog 96 (Qf (some ⟨b,0,none⟩) (Ji o sa sl sc ba bl bc)) w fun e w'=>e = .returned (.int .i64 (T.Yo o))∧Below w w w':=by
 have CA:=Zh (fun (w1:World) (h:Below w w w1)=>Uh b T o.peer w1 (hR.below h))
 have hb:=hR.lt
 obtain ⟨kd,p,n,q,nm,ss⟩:=o
 dsimp only at *
 subst hk
 have HJ:Hid (T.Yo ⟨2,p,n,q,nm,ss⟩=if 0≤T.Yx p then 9 else if !may nm then 12 else if T.ZK.any (fun x=>decide (key x.name=key nm)) then 9 else 0):=by
  show _=_;unfold ZU.Yo;rw [Z6 Zi,Z6 VB,ZX rfl]
 have CM:Hid (∀ w1,Below w w w1→Calls Tryz.prog 120 #[.string (str nm)] w1 fun e w'=>e = .returned (.bool (may nm))∧Below w1 w1 w'):=fun w1 h=>N_.B_ (str nm) w1 (by rw [Ou];exact Vz) (Utf8Tabs_below hT h)
 have CK:Hid (∀ (s:List UInt8) w1,s.length<9223372036854775807→Below w w w1→Calls Tryz.prog 121 #[.string (str s)] w1 fun e w'=>e = .returned (.string (str (key s)))∧Below w1 w1 w'):=fun s w1 hs h=>N_.tC (str s) w1 (by rw [Ou];exact hs) (Utf8Tabs_below hT h)
 have jw:=Vz
 obtain ⟨pv,sv,uv,YJ,X_⟩:=hR.Wh
 have hlen:=X_.ZK.len
 have fT:Hid (∀ w',Below w w w'→w'.cell? ⟨b,0,none⟩=some pv):=fun w' h=>(h.cell (p:=⟨b,0,none⟩) hb).trans (cell_of YJ 0)
 have HP:Hid (∀ w',Below w w w'→Row w' 103 pv T.ZK.length (T.ZK.flatMap Zf)):=fun w' h=>X_.ZK.below h
 obtain ⟨pa,pc,rfl,_⟩:=id X_.ZK
 have HPN:=Zh TI
 generalize T.Yo ⟨2,p,n,q,nm,ss⟩=jn at *
 generalize T.Yx p=at' at *
 clear hR Vz X_ YJ TI
 generalize T.ZK=P at *
 by_cases hj:0≤at'
 ·have HF:Hid (jn=9):=by show _=_;rw [HJ.o,ZX hj]
  go_enter Tryz.func96,Tryz.ntmps96
  go_wp2_with (go_at_call 48;refine (CA.o _ (Z' _ _)).mono ?_;rintro e w1 ⟨rfl,Zj⟩;obtain ⟨MQ,KP⟩:=TD Zj;have TJ:=Zj.size)
  exact nv
 cases hm:may nm
 ·have HF:Hid (jn=12):=by show _=_;rw [HJ.o,Z6 hj,hm];rfl
  rw [hm] at CM
  clear hm
  go_enter Tryz.func96,Tryz.ntmps96
  go_wp2_with (first|(go_at_call 48;refine (CA.o _ (Z' _ _)).mono ?_;rintro e w1 ⟨rfl,Zj⟩;obtain ⟨MQ,KP⟩:=TD Zj;have TJ:=Zj.size;have Ru:=(Z' w _).trans (Zj.mono Zi))|(go_at_call 120;refine (CM.o _ Ru).mono ?_;rintro e w2 ⟨rfl,Y0⟩))
  go_ret
  exact ⟨Y5 HF.o.symm,Ru.trans (Y0.mono Ru.size)⟩
 have HJ2:Hid (jn=if P.any (fun x=>decide (key x.name=key nm)) then 9 else 0):=by show _=_;rw [HJ.o,Z6 hj,hm];rfl
 rw [hm] at CM
 clear hm HJ
 go_enter Tryz.func96,Tryz.ntmps96
 go_wp2_with (first|(go_at_call 48;refine (CA.o _ (Z' _ _)).mono ?_;rintro e w1 ⟨rfl,Zj⟩;obtain ⟨MQ,KP⟩:=TD Zj;have TJ:w.heap.size<w1.heap.size:=Px Zi Zj.size;have Ru:=(Z' w _).trans (Zj.mono Zi);have Ng:=Zj.cell (p:=⟨w,4,none⟩) Zi;simp at Ng)|(go_at_call 120;refine (CM.o _ Ru).mono ?_;rintro e w2 ⟨rfl,Y0⟩;have YF:=Ru.trans (Y0.mono Ru.size);have Mx:=fT.o _ YF;have PT:=(Y0.cell (p:=⟨w,4,none⟩) TJ).trans Ng;have SG:=Px TJ Y0.size))
 clear Mx
 go_loopw [43] (fun i w'=>∃ k:Nat,k≤P.length∧i = .int .i64 k∧Below w w w'∧w.heap.size<w'.heap.size∧w'.cell? ⟨w,4,none⟩=some (.string (str nm))∧Hid (∀ j (h:j<P.length),j<k→key P[j].name≠key nm)) (fun i _=>P.length-(intOf i).toNat)
 case atStart=>exact ⟨0,TS _,rfl,YF,SG,PT,fun j h hj=>by omega⟩
 case round=>
  obtain ⟨k,hk,rfl,XS,Vr,Eb,Le⟩:=hrel
  by_cases W_:k<P.length
  ·obtain ⟨g,off,e1,hc⟩:=L_ (HP.o wr XS) Zo
   subst e1
   obtain ⟨d0,d1⟩:=hc k P[k] (VQ W_)
   have hnl:=HPN.o P[k] (Pw W_)
   have HIN:Hid (key P[k].name=key nm→jn=9):=by
    intro h
    rw [HJ2.o,ZX]
    rw [List.any_eq_true]
    exact ⟨P[k],Pw W_,by simpa using h⟩
   have pG:Hid (key P[k].name≠key nm→∀ j (h:j<P.length),j<k+1→key P[j].name≠key nm):=fun h j hj Ke=>by
    by_cases e:j=k
    ·subst e;exact h
    ·exact Le.o j hj Zo
   clear hc
   generalize P[k]=y at *
   obtain ⟨y0,nk⟩:=y
   dsimp only at d0 d1 HIN pG hnl
   have fM:=Zh (fun w2 (h:Below w w w2)=>CK.o nk w2 hnl h)
   have CK2:=Zh (fun w2 (h:Below w w w2)=>CK.o nm w2 jw h)
   have hkx:=KX.mk' (nk:=nk) (y0:=y0) (e:=103) XS Vr Eb
   by_cases SL:key nk=key nm
   ·have HF:=Zh (HIN.o SL)
    rw [SL] at fM
    clear SL
    go_wp2_with fail
    go_region_held3 (fun w'=>w'.cell? ⟨w,4,none⟩=some (.string (str nm))∧w'.cell? ⟨wr,1,none⟩=some (.string (str nk))∧KX w wr.heap.size nm nk w') (first|((with_reducible apply KX.all);with_reducible assumption)|((with_reducible apply KX.all);(with_reducible apply KX.drew);with_reducible assumption)|go_keep) (first|(go_at_call 121;go_split_ands;(with_reducible refine Calls.mono (fM.o _ ?_) ?_);(with_reducible apply KX.YI);(with_reducible assumption);rintro e w2 ⟨rfl,Y0⟩;have kx2:=KX.below Xo Y0)|(go_at_call 121;go_split_ands;(with_reducible refine Calls.mono (CK2.o _ ?_) ?_);(with_reducible apply KX.YI);(with_reducible assumption);rintro e w3 ⟨rfl,Ut⟩;have kx3:=KX.below Xo Ut))
    all_goals (go_wp2;go_ret;exact ⟨Y5 HF.o.symm,KX.YI Xo⟩)
   ·have HF:=Zh (pG.o SL)
    have e3:((str (key nk)).toList == (str (key nm)).toList)=false:=by rw [WT,ByteArray.toList_eq,ByteArray.toList_eq];exact SL
    clear SL
    go_wp2_with fail
    go_region_held3 (fun w'=>w'.cell? ⟨w,4,none⟩=some (.string (str nm))∧w'.cell? ⟨wr,1,none⟩=some (.string (str nk))∧KX w wr.heap.size nm nk w') (first|((with_reducible apply KX.all);with_reducible assumption)|((with_reducible apply KX.all);(with_reducible apply KX.drew);with_reducible assumption)|go_keep) (first|(go_at_call 121;go_split_ands;(with_reducible refine Calls.mono (fM.o _ ?_) ?_);(with_reducible apply KX.YI);(with_reducible assumption);rintro e w2 ⟨rfl,Y0⟩;have kx2:=KX.below Xo Y0)|(go_at_call 121;go_split_ands;(with_reducible refine Calls.mono (CK2.o _ ?_) ?_);(with_reducible apply KX.YI);(with_reducible assumption);rintro e w3 ⟨rfl,Ut⟩;have kx3:=KX.below Xo Ut))
    all_goals
     go_wp2
     go_roundw
     case rel=>exact ⟨k+1,Zo,Zn,KX.YI Xo,KX.s1 Xo,KX.c1 Xo,HF.o⟩
     case measure=>simp [intOf];omega
  ·have HF:Hid (jn=0):=by
    show _=_
    rw [HJ2.o,Z6]
    rw [List.any_eq_true]
    rintro ⟨x,hx,OY⟩
    obtain ⟨j,hj,rfl⟩:=List.getElem_of_mem hx
    exact Le.o j hj Zo (by simpa using OY)
   go_wp2
   go_ret
   exact ⟨Y5 HF.o.symm,XS⟩
theorem EM (b:Nat) (T:ZU) (o:Op) (s:XK) (sa ba ca:Option Addr) (sl sc bl bc cc:Nat) (w:World) (hR:ZT w b T) (hk:5≤o.kind∧o.kind≤12) :
  Calls Tryz.prog 123 (Q9 (some ⟨b,0,none⟩) (Ji o sa sl sc ba bl bc) (Qj s.num s.own ca s.ss.length cc s.ZE)) w fun e w'=>e = .returned (.int .i64 (T.XL o s))∧Below w w w':=by
 by_cases h1:o.kind=5∨o.kind=8∨o.kind=9
 ·exact EN b T o s sa ba ca sl sc bl bc cc w h1
 by_cases h2:o.kind=6
 ·exact M7 b T o s sa ba ca sl sc bl bc cc w hR h2
 by_cases h3:T.Zx o.peer o.source<0
 ·exact G8 b T o s sa ba ca sl sc bl bc cc w hR Zo h3
 ·exact I4 b T o s sa ba ca sl sc bl bc cc w hR Zo Zo
theorem Cl (b:Nat) (T:ZU) (o:Op) (sa ba:Option Addr) (sc bl bc:Nat) (w:World) (hR:ZT w b T) (hk:¬(o.kind=2∧1≤o.peer∧o.peer≤8))
  (Z7:Yf w (.slice sa o.ZO.length sc) o.ZO.length (Zb o.ZO)) :
  Calls Tryz.prog 96 (Qf (some ⟨b,0,none⟩) (Ji o sa o.ZO.length sc ba bl bc)) w fun e w'=>e = .returned (.int .i64 (T.Yo o))∧Below w w w':=by
 have CA:=Zh (fun (w1:World) (h:Below w w w1)=>Uh b T o.peer w1 (hR.below h))
 have CB:=Zh (fun (w1:World) (h:Below w w w1)=>W8 b T o.source w1 (hR.below h))
 have CP:=Zh (fun (w1:World) (h:Below w w w1)=>I3 b T o (T.Zq o.source) sa ba sc bl bc w1 (hR.below h) (Z7.below h))
 have HR:=Zh hR
 have hb:=hR.lt
 have HW:Hid (T.Yo o=if o.kind<2∨12<o.kind then 4
 else if o.peer<1∨8<o.peer then 5
 else if o.kind=2 then
  (if 0≤T.Yx o.peer then 9 else if !may o.name then 12 else if T.ZK.any (fun x=>decide (key x.name=key o.name)) then 9 else 0)
 else if T.Yx o.peer<0 then 8
 else if o.kind=3 then 0
 else if o.source<1∨8<o.source then 5
 else if o.kind=4 then T.Uq o (T.Zq o.source)
 else if T.Zq o.source<0 then 8
 else T.XL o (T.Xb o.source)):=rfl
 have HS:Hid (0≤T.Zq o.source→∃ k:Nat,k<T.Yv.length∧T.Zq o.source=k∧T.Xb o.source=T.Yv.getD k Vm):=fun h=>by
  obtain ⟨k,hk,e,-,-⟩:=Yh h
  refine ⟨k,hk,e,?_⟩
  unfold ZU.Xb
  rw [show T.Zq o.source=k from e,Xf]
 have CS:=Zh (fun (s:XK) (ca:Option Addr) (cc:Nat) (w1:World) (h:Below w w w1) (hk:5≤o.kind∧o.kind≤12)=>EM b T o s sa ba ca o.ZO.length sc bl bc cc w1 (hR.below h) hk)
 obtain ⟨kd,p,n,q,nm,ss⟩:=o
 dsimp only at *
 clear hR Z7
 have HAT:Hid (T.Yx p<0∨0≤T.Yx p):=by show _∨_;omega
 generalize T.Yo ⟨kd,p,n,q,nm,ss⟩=wv at *
 generalize T.Yx p=pat at *
 generalize T.Uq ⟨kd,p,n,q,nm,ss⟩ (T.Zq n)=pb at *
 by_cases h1:kd<2
 ·have HF:Hid (wv=4):=by show _=_;rw [HW.o,ZX (Wc h1)]
  exact nC
 by_cases h2:12<kd
 ·have HF:Hid (wv=4):=by show _=_;rw [HW.o,ZX (Wj h2)]
  exact nC
 by_cases h3:p<1
 ·have HF:Hid (wv=5):=by show _=_;rw [HW.o,Z6 Zo,ZX (Wc h3)]
  exact nC
 by_cases h4:8<p
 ·have HF:Hid (wv=5):=by show _=_;rw [HW.o,Z6 Zo,ZX (Wj h4)]
  exact nC
 have Ay:kd≠2:=fun h=>hk ⟨h,Zo,Zo⟩
 have HK2:=Zh Ay
 have b2:(kd == 2)=false:=by rw [WT];exact Ay
 have EZ:Hid (wv=if pat<0 then 8 else if kd=3 then 0 else if n<1∨8<n then 5 else if kd=4 then pb else if T.Zq n<0 then 8 else T.XL ⟨kd,p,n,q,nm,ss⟩ (T.Xb n)):=by
  show _=_;rw [HW.o,Z6 Zo,Z6 Zo,Z6 Ay]
 clear HW hk Ay
 by_cases h5:pat<0
 ·have HF:Hid (wv=8):=by show _=_;rw [EZ.o,ZX h5]
  have b5:decide (0≤pat)=false:=by simpa using h5
  exact nz
 have h5p:0≤pat:=by omega
 by_cases h6:kd=3
 ·subst h6
  have HF:Hid (wv=0):=by show _=_;rw [EZ.o,Z6 h5,ZX rfl]
  exact nz
 have b3:(kd == 3)=false:=by rw [WT];exact h6
 by_cases h7:n<1
 ·have HF:Hid (wv=5):=by show _=_;rw [EZ.o,Z6 h5,Z6 h6,ZX (Wc h7)]
  clear h6
  exact nz
 by_cases h8:8<n
 ·have HF:Hid (wv=5):=by show _=_;rw [EZ.o,Z6 h5,Z6 h6,ZX (Wj h8)]
  clear h6
  exact nz
 have uj:Hid (wv=if kd=4 then pb else if T.Zq n<0 then 8 else T.XL ⟨kd,p,n,q,nm,ss⟩ (T.Xb n)):=by
  show _=_;rw [EZ.o,Z6 h5,Z6 h6,Z6 Zo]
 clear EZ
 by_cases h9:kd=4
 ·subst h9
  have HF:Hid (wv=pb):=by show _=_;rw [uj.o,ZX rfl]
  clear h6 HS uj
  generalize T.Zq n=sat at *
  go_enter Tryz.func96,Tryz.ntmps96
  go_wp2_with (first|(go_at_call 48;(with_reducible refine (CA.o _ (Z' _ _)).mono ?_);rintro e w1 ⟨rfl,Zj⟩;obtain ⟨MQ,KP⟩:=TD Zj;have TJ:w.heap.size<w1.heap.size:=Px Zi Zj.size;have Ru:=(Z' w _).trans (Zj.mono Zi))|(go_at_call 49;(with_reducible refine (CB.o _ Ru).mono ?_);rintro e w2 ⟨rfl,Y0⟩;obtain ⟨cm,cC⟩:=TD Y0;have SG:=Px TJ Y0.size;have YF:=Ru.trans (Y0.mono Ru.size))|(go_at_call 122;(with_reducible refine (CP.o _ YF).mono ?_);rintro e w3 ⟨rfl,Ut⟩))
  go_ret
  exact ⟨Y5 HF.o.symm,YF.trans (Ut.mono YF.size)⟩
 have b4:(kd == 4)=false:=by rw [WT];exact h9
 have vC:5≤kd∧kd≤12:=by have:=HK2.o;omega
 by_cases xD:T.Zq n<0
 ·have HF:Hid (wv=8):=by show _=_;rw [uj.o,Z6 h9,ZX xD]
  clear h6 h9 HS uj
  generalize T.Zq n=sat at *
  go_enter Tryz.func96,Tryz.ntmps96
  go_wp2_with (first|(go_at_call 48;(with_reducible refine (CA.o _ (Z' _ _)).mono ?_);rintro e w1 ⟨rfl,Zj⟩;obtain ⟨MQ,KP⟩:=TD Zj;have TJ:w.heap.size<w1.heap.size:=Px Zi Zj.size;have Ru:=(Z' w _).trans (Zj.mono Zi))|(go_at_call 49;(with_reducible refine (CB.o _ Ru).mono ?_);rintro e w2 ⟨rfl,Y0⟩;obtain ⟨cm,cC⟩:=TD Y0;have SG:=Px TJ Y0.size;have YF:=Ru.trans (Y0.mono Ru.size)))
  go_ret
  exact ⟨Y5 HF.o.symm,YF⟩
 ·obtain ⟨k,W_,SL,hsd⟩:=HS.o Zo
  have HF:Hid (wv=T.XL ⟨kd,p,n,q,nm,ss⟩ (T.Yv.getD k Vm)):=by show _=_;rw [uj.o,Z6 h9,Z6 xD,hsd]
  rw [SL] at CB
  clear h6 h9 xD uj HS CP SL hsd
  go_enter Tryz.func96,Tryz.ntmps96
  go_wp2_with fail
  (with_reducible refine (CA.o _ (Z' _ _)).mono ?_)
  rintro e w1 ⟨rfl,Zj⟩
  obtain ⟨MQ,KP⟩:=TD Zj
  have TJ:w.heap.size<w1.heap.size:=Px Zi Zj.size
  have Ru:=(Z' w _).trans (Zj.mono Zi)
  go_wp2_with fail
  (with_reducible refine (CB.o _ Ru).mono ?_)
  rintro e w2 ⟨rfl,Y0⟩
  obtain ⟨cm,cC⟩:=TD Y0
  have SG:=Px TJ Y0.size
  have YF:=Ru.trans (Y0.mono Ru.size)
  obtain ⟨pv,sv,uv,YJ,X_⟩:=(HR.o.below YF).Wh
  obtain ⟨P,Vd,Z7,MR⟩:=X_.Yv
  have W_:k<P.length:=by rw [←Vd,UM] at W_;exact W_
  have hlen:=Z7.len
  have c1:=cell_of YJ 1
  have HX:Hid (T.Yv.getD k Vm=P[k].1):=by show _=_;rw [←Vd,VC W_]
  have hr:=MR P[k] (Pw W_)
  obtain ⟨pa,pc,rfl,-,-⟩:=id Z7
  obtain ⟨g,off,e1,hc⟩:=U3 Z7 Zo
  subst e1
  obtain ⟨d0,d1,d2,d3⟩:=hc k P[k] (VQ W_)
  obtain ⟨ca,cc,hv,-,-⟩:=id hr
  rw [hv] at d2
  have CS2:=Zh (fun (w1:World) (h:Below w w w1)=>CS.o P[k].1 ca cc w1 h vC)
  have iT:=Zh Y0
  have hb1':=Zh Zj
  have rV:=Zh YF
  clear hc hv hr MR YJ X_ Vd Z7 Zj Y0 Ru YF
  generalize P[k]=x at *
  obtain ⟨⟨x0,x1,x2,x3⟩,x4⟩:=x
  dsimp only at d0 d1 d2 d3 HX CS2
  go_wp2_with fail
  go_still_tail 9,Zg
  go_wp2_with (go_at_call 123;(with_reducible refine (CS2.o _ (Below.drew rV.o)).mono ?_);rintro e w3 ⟨rfl,Ut⟩)
  go_ret
  exact ⟨Y5 (by rw [HF.o,HX.o]),rV.o.drew.trans (Ut.mono rV.o.size)⟩
theorem WL (b:Nat) (T:ZU) (o:Op) (sa ba:Option Addr) (sc bl bc:Nat) (w:World) (hR:ZT w b T) (hT:Xe w) (Vz:o.name.length<9223372036854775807) (TI:∀ x∈T.ZK,x.name.length<9223372036854775807)
  (Z7:Yf w (.slice sa o.ZO.length sc) o.ZO.length (Zb o.ZO)) :
  Calls Tryz.prog 96 (Qf (some ⟨b,0,none⟩) (Ji o sa o.ZO.length sc ba bl bc)) w fun e w'=>e = .returned (.int .i64 (T.Yo o))∧Below w w w':=by
 by_cases h:o.kind=2∧1≤o.peer∧o.peer≤8
 ·exact Ck b T o sa ba _ sc bl bc w hR hT Vz TI h.1 h.2
 ·exact Cl b T o sa ba sc bl bc w hR h Z7
end Go.Proofs.Rm
namespace Go.Proofs.Heap
open Go.RowKit
theorem Below.alloc' {B:Nat} {a w:World} (h:Below B a w) (hB:B≤a.heap.size) (o:Obj):Below B a (w.alloc o):=h.alloc (Rh hB h.size) o
theorem Below.call {B:Nat} {a w w2:World} (h:Below B a w) (hB:B≤a.heap.size) (hb:Below w w w2):Below B a w2:=h.trans (hb.mono (Rh hB h.size))
theorem le2 (w:World) (A B:Obj):w.heap.size+2≤((w.alloc A).alloc B).heap.size:=by simp
end Go.Proofs.Heap
