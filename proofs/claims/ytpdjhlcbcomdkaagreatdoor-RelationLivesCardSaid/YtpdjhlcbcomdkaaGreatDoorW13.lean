/- Part of a proof. -/
import Derived.Test.YtpdjhlcbcomdkaaGreatDoorW12
set_option linter.unusedVariables false
set_option linter.unusedSimpArgs false
set_option maxRecDepth 100000
set_option maxHeartbeats 16000000
open Go Go.Q Go.Qr
namespace Go.Proofs.Rm
open Go.RowKit Go.Proofs.Heap Go.Proofs.Mem
theorem SI (b:Nat) (T:ZN) (n:Int) (w:World) (hR:ZL w b T) :
  Calls Tryz.prog 48 (Qj (some ⟨b,0,none⟩) n) w fun e w'=>e = .returned (.int .i64 (T.XI n))∧Below w w w':=by
 obtain ⟨pv,sv,uv,Yp,XM⟩:=hR.VC
 have hb:=hR.lt
 have hlen:=XM.ZA.len
 have c0:=cell_of Yp 0
 have HP:Hid (∀ w',Below w w w'→Row w' 103 pv T.ZA.length (T.ZA.flatMap Yz)):=fun w' h=>XM.ZA.below h
 obtain ⟨pa,pc,rfl,_⟩:=id XM.ZA
 have I3:Hid (T.XI n=findAt (fun x:Vk=>x.num == n) T.ZA):=rfl
 clear hR XM Yp
 generalize T.ZA=P at *
 go_enter Tryz.func48,Tryz.ntmps48
 go_wp2
 go_loopw [12] (fun i w'=>∃ k:Nat,k≤P.length∧i = .int .i64 k∧Below w w w'∧Hid (∀ j (h:j<P.length),j<k→(fun x:Vk=>x.num == n) P[j]=false)) (fun i _=>P.length-(intOf i).toNat)
 case atStart=>exact ⟨0,Zo,rfl,YH _ _,fun j h hj=>by omega⟩
 case round=>
  obtain ⟨k,hk,rfl,W9,HN⟩:=hrel
  by_cases VR:k<P.length
  ·obtain ⟨g,off,e1,hc⟩:=vF (HP.o wr W9) Zo
   subst e1
   obtain ⟨d0,d1⟩:=hc k P[k] (U7 VR)
   have HH:Hid ((fun x:Vk=>x.num == n) P[k]=true→T.XI n=k):=fun h=>by rw [I3.o];exact OA VR h HN.o
   have HM:Hid ((fun x:Vk=>x.num == n) P[k]=false→∀ j (h:j<P.length),j<k+1→(fun x:Vk=>x.num == n) P[j]=false):=fun h j hj JN=>by
    by_cases e:j=k
    ·subst e;exact h
    ·exact HN.o j hj Zo
   clear hc
   generalize P[k]=x at *
   obtain ⟨x0,x1⟩:=x
   dsimp only at d0 d1 HH HM
   exact gg
  ·have HF:Hid (T.XI n = -1):=by show _=_;rw [I3.o];exact Sj fun j h=>HN.o j h Zo
   go_wp2
   go_ret
   exact ⟨YW HF.o.symm,W9⟩
theorem V6 (b:Nat) (T:ZN) (n:Int) (w:World) (hR:ZL w b T) :
  Calls Tryz.prog 49 (Qj (some ⟨b,0,none⟩) n) w fun e w'=>e = .returned (.int .i64 (T.YU n))∧Below w w w':=by
 obtain ⟨pv,sv,uv,Yp,XM⟩:=hR.VC
 have hb:=hR.lt
 obtain ⟨P,TF,Z0,T4⟩:=XM.Yk
 have hlen:=Z0.len
 have c0:=cell_of Yp 1
 have HP:Hid (∀ w',Below w w w'→Row w' 108 sv P.length (P.flatMap Zt)):=fun w' h=>Z0.below h
 have HV:Hid (∀ m∈P,∃ a k c,m.2 = .slice a k c):=fun m hm=>by
  obtain ⟨a,c,h,_⟩:=T4 m hm
  exact ⟨a,_,c,h⟩
 obtain ⟨pa,pc,rfl,_⟩:=id Z0
 have I3:Hid (T.YU n=findAt (fun x:Wl × Value=>x.1.num == n) P):=by show _=_;unfold ZN.YU;rw [←TF,GG]
 clear hR XM Yp TF Z0 T4
 go_enter Tryz.func49,Tryz.ntmps49
 go_wp2
 go_loopw [12] (fun i w'=>∃ k:Nat,k≤P.length∧i = .int .i64 k∧Below w w w'∧Hid (∀ j (h:j<P.length),j<k→(fun x:Wl × Value=>x.1.num == n) P[j]=false)) (fun i _=>P.length-(intOf i).toNat)
 case atStart=>exact ⟨0,Zo,rfl,YH _ _,fun j h hj=>by omega⟩
 case round=>
  obtain ⟨k,hk,rfl,W9,HN⟩:=hrel
  by_cases VR:k<P.length
  ·obtain ⟨g,off,e1,hc⟩:=SF (HP.o wr W9) Zo
   subst e1
   obtain ⟨d0,d1,d2,d3⟩:=hc k P[k] (U7 VR)
   obtain ⟨va,vk,vc,hv⟩:=HV.o P[k] (Ot VR)
   rw [hv] at d2
   have HH:Hid ((fun x:Wl × Value=>x.1.num == n) P[k]=true→T.YU n=k):=fun h=>by rw [I3.o];exact OA VR h HN.o
   have HM:Hid ((fun x:Wl × Value=>x.1.num == n) P[k]=false→∀ j (h:j<P.length),j<k+1→(fun x:Wl × Value=>x.1.num == n) P[j]=false):=fun h j hj JN=>by
    by_cases e:j=k
    ·subst e;exact h
    ·exact HN.o j hj Zo
   clear hc hv
   generalize P[k]=x at *
   obtain ⟨⟨x0,x1,x2,x3⟩,x4⟩:=x
   dsimp only at d0 d1 d3 HH HM
   exact gg
  ·have HF:Hid (T.YU n = -1):=by show _=_;rw [I3.o];exact Sj fun j h=>HN.o j h Zo
   go_wp2
   go_ret
   exact ⟨YW HF.o.symm,W9⟩
theorem Wy (b:Nat) (T:ZN) (p n:Int) (w:World) (hR:ZL w b T) :
  Calls Tryz.prog 51 (Qs (some ⟨b,0,none⟩) p n) w fun e w'=>e = .returned (.int .i64 (T.Zb p n))∧Below w w w':=by
 obtain ⟨pv,sv,uv,Yp,XM⟩:=hR.VC
 have hb:=hR.lt
 have hlen:=XM.Z5.len
 have c0:=cell_of Yp 2
 have HP:Hid (∀ w',Below w w w'→Row w' 105 uv T.Z5.length (T.Z5.flatMap Zv)):=fun w' h=>XM.Z5.below h
 obtain ⟨pa,pc,rfl,_⟩:=id XM.Z5
 have I3:Hid (T.Zb p n=findAt (fun x:Vj=>x.peer == p && x.source == n) T.Z5):=rfl
 clear hR XM Yp
 generalize T.Z5=P at *
 go_enter Tryz.func51,Tryz.ntmps51
 go_wp2
 go_loopw [14] (fun i w'=>∃ k:Nat,k≤P.length∧i = .int .i64 k∧Below w w w'∧Hid (∀ j (h:j<P.length),j<k→(fun x:Vj=>x.peer == p && x.source == n) P[j]=false)) (fun i _=>P.length-(intOf i).toNat)
 case atStart=>exact ⟨0,Zo,rfl,YH _ _,fun j h hj=>by omega⟩
 case round=>
  obtain ⟨k,hk,rfl,W9,HN⟩:=hrel
  by_cases VR:k<P.length
  ·obtain ⟨g,off,e1,hc⟩:=O0 (HP.o wr W9) Zo
   subst e1
   obtain ⟨d0,d1,d2,d3⟩:=hc k P[k] (U7 VR)
   have HH:Hid ((fun x:Vj=>x.peer == p && x.source == n) P[k]=true→T.Zb p n=k):=fun h=>by rw [I3.o];exact OA VR h HN.o
   have HM:Hid ((fun x:Vj=>x.peer == p && x.source == n) P[k]=false→∀ j (h:j<P.length),j<k+1→(fun x:Vj=>x.peer == p && x.source == n) P[j]=false):=fun h j hj JN=>by
    by_cases e:j=k
    ·subst e;exact h
    ·exact HN.o j hj Zo
   clear hc
   generalize P[k]=x at *
   obtain ⟨x0,x1,x2,x3⟩:=x
   dsimp only at d0 d1 d2 d3 HH HM
   by_cases hx:x0=p
   ·by_cases hy:x1=n
    ·have HF:=Zh (HH.o (by rw [hx,hy];simp))
     subst hx hy
     go_wp2
     go_ret
     exact ⟨YW HF.o.symm,W9.alloc W9.size _⟩
    ·have uY:(x1 == n)=false:=by rw [WQ];exact hy
     have HF:=Zh (HM.o (by rw [uY,Bool.and_false]))
     subst hx
     clear hy
     exact jZ
   ·have uY:(x0 == p)=false:=by rw [WQ];exact hx
    have HF:=Zh (HM.o (by rw [uY,Bool.false_and]))
    clear hx
    exact jZ
  ·have HF:Hid (T.Zb p n = -1):=by show _=_;rw [I3.o];exact Sj fun j h=>HN.o j h Zo
   go_wp2
   go_ret
   exact ⟨YW HF.o.symm,W9⟩
theorem Ut {l:List (Wl × Value)} {k:Nat} (h:k<l.length):(l.map Prod.fst).getD k UO=l[k].1:=by
 rw [Rw,List.getElem?_map,U7 h];rfl
theorem getD_at {l:List Int} {k:Nat} (h:k<l.length):l.getD k 0=l[k]:=by
 rw [Rw,U7 h];rfl
theorem Ni (b:Nat) (T:ZN) (x:Int) (w:World) (hR:ZL w b T) :
  Calls Tryz.prog 74 (Jf (some ⟨b,0,none⟩) x) w fun e w'=>e = .returned (.tuple (Q3 (T.of x).1 (T.of x).2.1 (T.of x).2.2))∧Below w w w':=by
 obtain ⟨pv,sv,uv,Yp,XM⟩:=hR.VC
 have hb:=hR.lt
 obtain ⟨P,TF,Z0,T4⟩:=XM.Yk
 have hlen:=Z0.len
 have c0:=cell_of Yp 1
 have HP:Hid (∀ w',Below w w w'→Row w' 108 sv P.length (P.flatMap Zt)∧∀ m∈P,Row w' 66 m.2 m.1.ss.length (YO m.1.ss)):=fun w' h=>⟨Z0.below h,fun m hm=>(T4 m hm).below h⟩
 obtain ⟨pa,pc,rfl,_⟩:=id Z0
 have I3:Hid (T.RZ x=findAt (fun s:Wl × Value=>s.1.ss.contains x) P):=by show _=_;unfold ZN.RZ;rw [←TF,GG]
 have HOF:Hid (T.of x=if T.RZ x<0 then (0,0,false) else ((T.Yk.getD (T.RZ x).toNat UO).num,index (T.Yk.getD (T.RZ x).toNat UO).ss x,true)):=rfl
 have jr:=Zh TF
 clear hR XM Yp TF Z0 T4
 go_enter Tryz.func74,Tryz.ntmps74
 go_wp2
 go_loopw [16] (fun i w'=>∃ k:Nat,k≤P.length∧i = .int .i64 k∧Below w w w'∧Hid (∀ j (h:j<P.length),j<k→(fun s:Wl × Value=>s.1.ss.contains x) P[j]=false)) (fun i _=>P.length-(intOf i).toNat)
 case atStart=>exact ⟨0,Zo,rfl,YH _ _,fun j h hj=>by omega⟩
 case round=>
  obtain ⟨k,hk,rfl,W9,HN⟩:=hrel
  by_cases VR:k<P.length
  ·obtain ⟨g,off,e1,hc⟩:=SF (HP.o wr W9).1 Zo
   subst e1
   obtain ⟨d0,d1,d2,d3⟩:=hc k P[k] (U7 VR)
   have hr:=(HP.o wr W9).2 P[k] (Ot VR)
   have HH:Hid ((fun s:Wl × Value=>s.1.ss.contains x) P[k]=true→T.of x=(P[k].1.num,index P[k].1.ss x,true)):=fun h=>by
    have e:=OA (p:=fun s:Wl × Value=>s.1.ss.contains x) VR h HN.o
    rw [HOF.o,I3.o,e,Z4 Zo,Wv,←jr.o,Ut VR]
   have HM:Hid ((fun s:Wl × Value=>s.1.ss.contains x) P[k]=false→∀ j (h:j<P.length),j<k+1→(fun s:Wl × Value=>s.1.ss.contains x) P[j]=false):=fun h j hj JN=>by
    by_cases e:j=k
    ·subst e;exact h
    ·exact HN.o j hj Zo
   clear hc
   generalize P[k]=y at *
   obtain ⟨⟨x0,x1,x2,x3⟩,x4⟩:=y
   dsimp only at d0 d1 d2 d3 HH HM hr
   have rB:=hr.len
   obtain ⟨ya,yc,rfl,_⟩:=id hr
   have SH:Hid (0<x2.length→∃ g off,ya=some ⟨g,off,none⟩∧g<wr.heap.size∧∀ j,j<x2.length→wr.cell? ⟨g,off+j,none⟩=some (.int .u32 (x2.getD j 0))):=fun h=>by
    obtain ⟨g,off,cap,e1,_,_,hg,hc⟩:=NQ hr h
    exact ⟨g,off,(slice_inj e1).1,hg,hc⟩
   clear hr
   obtain ⟨wo,rfl⟩:∃ wo:World,wo=wr:=⟨_,rfl⟩
   go_wp2
   go_loop [23] (fun i=>∃ m:Nat,m≤x2.length∧i = .int .i64 m∧Hid (∀ j,j<m→x2.getD j 0≠x)) (fun i=>x2.length-(intOf i).toNat)
   case atStart=>exact ⟨0,Zo,rfl,fun j hj=>by omega⟩
   case round=>
    obtain ⟨m,hm,rfl,aA⟩:=hrel
    by_cases KO:m<x2.length
    ·obtain ⟨g3,off3,e3,hg3,mh⟩:=SH.o Zo
     subst e3
     have hd:=mh m KO
     clear mh
     by_cases hx:x2.getD m 0=x
     ·have HF:=Zh (HH.o (by rw [List.contains_iff_mem,←hx,getD_at KO];exact Ot KO))
      have HI:Hid (index x2 x=m):=index_hit KO hx aA.o
      rw [hx] at hd
      clear hx
      go_wp2
      go_ret3
      exact ⟨by rw [HF.o,HI.o];rfl,W9.alloc W9.size _⟩
     ·have uY:(x2.getD m 0 == x)=false:=by rw [WQ];exact hx
      have HX:=Zh hx
      clear hx
      generalize hy:x2.getD m 0=y at *
      have HY:=Zh hy
      clear hy
      go_wp2
      go_round
      case rel=>exact ⟨m+1,Zo,Zn,fun j hj=>by by_cases Am:j<m;exact aA.o j Am;rw [show j=m by omega,HY.o];exact HX.o⟩
      case measure=>simp [intOf];omega
    ·have HF:=Zh (HM.o (by
      rw [K4]
      intro h
      rw [List.contains_iff_mem] at h
      obtain ⟨j,hj,e⟩:=List.getElem_of_mem h
      exact aA.o j Zo (by rw [getD_at hj];exact e)))
     exact jZ
  ·have HF:Hid (T.of x=(0,0,false)):=by
    show _=_
    rw [HOF.o,I3.o,Sj (fun j h=>HN.o j h Zo),ZQ Zd]
   go_wp2
   go_ret3
   exact ⟨by rw [HF.o];rfl,W9⟩
theorem Rv (b:Nat) (T:ZN) (n:Int) (w:World) (hR:ZL w b T) :
  Calls Tryz.prog 75 (Qj (some ⟨b,0,none⟩) n) w fun e w'=>e = .returned (.int .i64 (T.owner n))∧Below w w w':=by
 have CS:=Zh (V6 b T n w hR)
 have ME:Hid (T.owner n=if T.YU n<0 then 0 else (T.Yk.getD (T.YU n).toNat UO).own):=rfl
 have HAT:Hid (0≤T.YU n→∃ k:Nat,k<T.Yk.length∧T.YU n=k):=fun h=>by
  obtain ⟨k,hk,e,_⟩:=XL h
  exact ⟨k,hk,e⟩
 have hb:=hR.lt
 have HR:=Zh hR
 clear hR
 by_cases eo:T.YU n<0
 ·have HF:Hid (T.owner n=0):=by show _=_;rw [ME.o,ZQ eo]
  generalize T.YU n=q at *
  go_enter Tryz.func75,Tryz.ntmps75
  go_wp2_with (go_at_call 49;refine CS.o.mono ?_;rintro e w1 ⟨rfl,YZ⟩)
  go_ret
  exact ⟨YW HF.o.symm,YZ⟩
 ·obtain ⟨k,hk,e⟩:=HAT.o Zo
  have HF:Hid (T.owner n=(T.Yk.getD k UO).own):=by show _=_;rw [ME.o,Z4 eo,e,Wv]
  rw [e] at CS
  clear e eo HAT ME
  go_enter Tryz.func75,Tryz.ntmps75
  go_wp2_with fail
  refine CS.o.mono ?_
  rintro e w1 ⟨rfl,YZ⟩
  obtain ⟨pv,sv,uv,Yp,XM⟩:=(HR.o.below YZ).VC
  obtain ⟨P,TF,Z0,T4⟩:=XM.Yk
  have VR:k<P.length:=by rw [←TF,Tx] at hk;exact hk
  have hlen:=Z0.len
  have c0:=cell_of Yp 1
  obtain ⟨pa,pc,rfl,_⟩:=id Z0
  obtain ⟨g,off,e1,hc⟩:=SF Z0 Zo
  subst e1
  obtain ⟨d0,d1,d2,d3⟩:=hc k P[k] (U7 VR)
  have HX:Hid ((T.Yk.getD k UO).own=P[k].1.own):=by show _=_;rw [←TF,Ut VR]
  clear hc d0 d2 d3 XM Yp TF Z0 T4
  generalize P[k].1.own=ow at *
  go_wp2
  go_ret
  exact ⟨YW (by rw [HF.o,HX.o]),YZ⟩
theorem J_ (b:Nat) (T:ZN) (n:Int) (w:World) (hR:ZL w b T) :
  Calls Tryz.prog 50 (Qj (some ⟨b,0,none⟩) n) w fun e w'=>(∃ v,e = .returned v∧Row w' 3 v (T.Zx n).length (ints (T.Zx n)))∧Below w w w':=by
 have HR:=Zh hR
 have hb:=hR.lt
 have HS:Hid (T.Zx n=T.Vy n 8):=rfl
 clear hR
 go_enter Tryz.func50,Tryz.ntmps50
 go_wp2
 go_loopw [5,6] (fun v i w'=>∃ k:Nat,k≤8∧i = .int .i64 ((k:Int)+1)∧Below w w w'∧w'.ownsRow w 3 1 v (T.Vy n k).length (ints (T.Vy n k))) (fun _ i _=>9-(intOf i).toNat)
 case atStart=>exact ⟨0,Zo,rfl,YH _ _,Ua _ _ _ _⟩
 case round=>
  obtain ⟨k,hk,rfl,W9,YJ⟩:=hrel
  have Yl:=Zh YJ
  clear YJ
  by_cases lf:k<8
  ·have CS:=Zh (Wy b T ((k:Int)+1) n wr (HR.o.below W9))
   have jz:=Zh (C_ T n k)
   have I5:=Sl T n k
   by_cases hs:0≤T.Zb ((k:Int)+1) n
   ·have HF:Hid (T.Vy n (k+1)=T.Vy n k++[k+1]):=by show _=_;rw [jz.o,ZQ hs]
    generalize T.Zb ((k:Int)+1) n=q at *
    generalize T.Vy n k=G at *
    go_wp2_with (first|(go_at_call 51;refine CS.o.mono ?_;rintro e w1 ⟨rfl,YZ⟩)|(at_builtin;refine YV rfl (.tmp 16) (.tmp 18) 72 rfl w.heap.size Xd _ G.length (ints G) rfl ?a1 _ 1 [.int .i64 ((k:Int)+1)] rfl ?a2 rfl ?a4 ?a5 ?a6 ?a7 (fun v' w2 NV HG=>?_)))
    case a1=>exact (Zy Yl.o YZ).alloc _
    case a2=>exact Yu _ _ 1 _ [.int .i64 ((k:Int)+1)] Zd Zi
    case a4=>intro u hu;simp at hu;subst hu;rfl
    case a5=>omega
    case a6=>omega
    case a7=>have h1:=W9.size;have h2:=YZ.size;simp;omega
    go_roundw
    case rel=>
     refine ⟨k+1,Zo,Zn,?_,?_⟩
     ·have h1:=W9.trans (YZ.mono W9.size)
      have h2:=h1.alloc h1.size (.cells #[.int .i64 ((k:Int)+1)] 3)
      exact h2.grown HG.o h2.size (YL Yl.o)
     ·rw [HF.o,UM,JS]
      exact NV.o
    case measure=>simp [intOf];omega
   ·have HF:Hid (T.Vy n (k+1)=T.Vy n k):=by show _=_;rw [jz.o,Z4 hs,wC]
    generalize T.Zb ((k:Int)+1) n=q at *
    go_wp2_with (go_at_call 51;refine CS.o.mono ?_;rintro e w1 ⟨rfl,YZ⟩)
    go_roundw
    case rel=>
     refine ⟨k+1,Zo,Zn,W9.trans (YZ.mono W9.size),?_⟩
     rw [HF.o]
     exact Zy Yl.o YZ
    case measure=>simp [intOf];omega
  ·have iD:k=8:=by omega
   subst iD
   go_wp2
   go_ret
   exact ⟨⟨_,rfl,by rw [HS.o];exact Row.Z6 Yl.o⟩,W9⟩
end Go.Proofs.Rm
namespace Go.Proofs.Rm
open Go.RowKit Go.Proofs.Heap Go.Proofs.Mem
theorem DB (T:ZN) (l:List Int) (k:Nat):T.VA l k=((l.take k).contains (l.getD k 0) || (T.of (l.getD k 0)).2.2):=rfl
theorem Ia (b:Nat) (T:ZN) (o:Op) (at':Int) (sa ba:Option Addr) (sc bl bc:Nat) (w:World) (hR:ZL w b T)
  (Z0:XU w (.slice sa o.ZK.length sc) o.ZK.length (YO o.ZK)) :
  Calls Tryz.prog 122 (Q1 (some ⟨b,0,none⟩) (Jm o sa o.ZK.length sc ba bl bc) at') w fun e w'=>e = .returned (.int .i64 (T.TS o at'))∧Below w w w':=by
 have CO:=Zh (fun (w1:World) (x:Int) (h:Below w w w1)=>Ni b T x w1 (hR.below h))
 obtain ⟨kd,p,n,q,nm,ss⟩:=o
 have hb:=hR.lt
 have HP:Hid (T.TS ⟨kd,p,n,q,nm,ss⟩ at'=(if ss.length<1∨3<ss.length then 5 else if ss.any (fun s=>decide (s<2) || decide (3221225472≤s)) then 5 else if 0≤at' then 9 else if (List.range ss.length).any (T.VA ss) then 9 else 0)):=rfl
 dsimp only at *
 have hlen:=Z0.len
 clear hR
 generalize T.TS ⟨kd,p,n,q,nm,ss⟩ at'=Ds at *
 by_cases h1:ss.length<1
 ·have HF:Hid (Ds=5):=by show _=_;rw [HP.o,ZQ (Ww h1)]
  exact gI
 by_cases h2:3<ss.length
 ·have HF:Hid (Ds=5):=by show _=_;rw [HP.o,ZQ (Wi h2)]
  exact gI
 have mZ:Hid (Ds=(if ss.any (fun s=>decide (s<2) || decide (3221225472≤s)) then 5 else if 0≤at' then 9 else if (List.range ss.length).any (T.VA ss) then 9 else 0)):=by
  show _=_;rw [HP.o,Z4 Zo]
 obtain ⟨g,off,cap,e1,_,_,hg,Yw⟩:=PN Z0 Zo
 cases e1
 have HC:=Zh Yw
 have Vi:=Zh Z0
 clear Yw Z0 HP
 go_enter Tryz.func122,Tryz.ntmps122
 go_wp2
 go_loop [29] (fun i=>∃ k:Nat,k≤ss.length∧i = .int .i64 k∧Hid (∀ j,j<k→2≤ss.getD j 0∧ss.getD j 0<3221225472)) (fun i=>ss.length-(intOf i).toNat)
 case atStart=>exact ⟨0,Tw _,rfl,fun j hj=>by omega⟩
 case round=>
  obtain ⟨k,hk,rfl,KP⟩:=hrel
  by_cases VR:k<ss.length
  ·exact Yx45
  ·have bV:Hid (Ds=if 0≤at' then 9 else if (List.range ss.length).any (T.VA ss) then 9 else 0):=by
    exact gj
   clear KP mZ
   by_cases Vc:0≤at'
   ·have HF:Hid (Ds=9):=by show _=_;rw [bV.o,ZQ Vc]
    go_wp2
    go_ret
    exact ⟨YW HF.o.symm,Z' _ _⟩
   ·have aB:Hid (Ds=if (List.range ss.length).any (T.VA ss) then 9 else 0):=by show _=_;rw [bV.o,Z4 Vc]
    clear bV
    go_wp2
    go_loopw [45] (fun i w'=>∃ k:Nat,k≤ss.length∧i = .int .i64 k∧Below w w w'∧w.heap.size<w'.heap.size∧w'.cell? ⟨w,5,none⟩=some (.slice (some ⟨g,off,none⟩) ss.length sc)∧Hid (∀ j,j<k→T.VA ss j=false)) (fun i _=>ss.length-(intOf i).toNat)
    case atStart=>exact ⟨0,Tw _,rfl,Z' _ _,by simp,by simp,fun j hj=>by omega⟩
    case round=>
     obtain ⟨k,hk,rfl,W9,T5,CX,KP⟩:=hrel
     by_cases VR:k<ss.length
     ·have Ey:=Vi.o.below W9
      obtain ⟨g',off',cap',e1,_,_,hg',Yw⟩:=PN Ey Zo
      cases e1
      have hc:=Yw k VR
      have HCR:=Zh Yw
      have fH:=Zh (CO.o wr (ss.getD k 0) W9)
      have jC:=Zh (DB T ss k)
      have mX:Hid (T.VA ss k=true→Ds=9):=by
       intro h
       rw [aB.o,ZQ]
       rw [List.any_eq_true]
       exact ⟨k,by simpa using VR,h⟩
      clear Yw Ey
      generalize T.of (ss.getD k 0)=O at *
      obtain ⟨o1,o2,o3⟩:=O
      dsimp only at fH jC
      have HCN:Hid ((ss.take k).contains (ss.getD k 0)=true↔∃ j,j<k∧ss.getD j 0=ss.getD k 0):=by
       rw [Hid,List.contains_iff_mem,List.mem_iff_getElem]
       constructor
       ·rintro ⟨j,hj,e⟩
        rw [Tg] at hj
        rw [List.getElem_take] at e
        exact ⟨j,Zo,by rw [getD_at Zo];exact e⟩
       ·rintro ⟨j,hj,e⟩
        exact ⟨j,by rw [Tg];omega,by rw [List.getElem_take,←getD_at Zo];exact e⟩
      generalize (ss.take k).contains (ss.getD k 0)=cn at *
      generalize rD:ss.getD k 0=x at *
      clear rD
      obtain ⟨wo,rfl⟩:∃ wo:World,wo=wr:=⟨_,rfl⟩
      go_wp2
      go_loop [55] (fun i=>∃ m:Nat,m≤k∧i = .int .i64 m∧Hid (∀ j,j<m→ss.getD j 0≠x)) (fun i=>k-(intOf i).toNat)
      case atStart=>exact ⟨0,Zo,rfl,fun j hj=>by omega⟩
      case round=>
       obtain ⟨m,hm,rfl,HN⟩:=hrel
       by_cases iI:m<k
       ·have hd:=HCR.o m Zo
        by_cases hx:ss.getD m 0=x
        ·have HF:=Zh (mX.o (by rw [jC.o,HCN.o.2 ⟨m,iI,hx⟩];rfl))
         rw [hx] at hd
         clear hx
         go_wp2
         go_ret
         exact ⟨YW HF.o.symm,W9⟩
        ·have uY:(x == ss.getD m 0)=false:=by rw [WQ];exact fun e=>hx e.symm
         have HX:=Zh hx
         clear hx
         generalize hy:ss.getD m 0=y at *
         have HY:=Zh hy
         clear hy
         go_wp2
         go_round
         case rel=>exact ⟨m+1,Zo,Zn,fun j hj=>by by_cases Am:j<m;exact HN.o j Am;rw [show j=m by omega,HY.o];exact HX.o⟩
         case measure=>simp [intOf];omega
       ·have kQ:cn=false:=by
         rw [K4]
         intro h
         obtain ⟨j,hj,e⟩:=HCN.o.1 h
         exact HN.o j Zo e
        cases o3
        ·have HF:Hid (T.VA ss k=false):=by show _=_;rw [jC.o,kQ];rfl
         clear kQ
         go_wp2_with (go_at_call 74;refine fH.o.mono ?_;rintro e w2 ⟨rfl,Y0⟩;have JK:=(Y0.cell (p:=⟨w,5,none⟩) T5).trans CX)
         exact gh
        ·have HF:=Zh (mX.o (by rw [jC.o,Bool.or_true]))
         clear kQ
         go_wp2_with (go_at_call 74;refine fH.o.mono ?_;rintro e w2 ⟨rfl,Y0⟩)
         go_ret
         exact ⟨YW HF.o.symm,W9.trans (Y0.mono W9.size)⟩
     ·exact gw
theorem DR (b:Nat) (T:ZN) (o:Op) (s:Wl) (sa ba ca:Option Addr) (sl sc bl bc cc:Nat) (w:World) (hk:o.kind=5∨o.kind=8∨o.kind=9) :
  Calls Tryz.prog 123 (Ja (some ⟨b,0,none⟩) (Jm o sa sl sc ba bl bc) (Qp s.num s.own ca s.ss.length cc s.ZG)) w fun e w'=>e = .returned (.int .i64 (T.Xn o s))∧Below w w w':=by
 obtain ⟨kd,p,n,q,nm,ss⟩:=o
 obtain ⟨s0,s1,s2,s3⟩:=s
 dsimp only at *
 have HW:Hid (T.Xn ⟨kd,p,n,q,nm,ss⟩ ⟨s0,s1,s2,s3⟩=(if s1≠p then 10 else if kd=8∧s3=true then 9 else if kd=9∧s3=false then 11 else 0)):=by
  show _=_;unfold ZN.Xn;dsimp only;rw [ZQ hk]
 generalize T.Xn ⟨kd,p,n,q,nm,ss⟩ ⟨s0,s1,s2,s3⟩=wv at *
 rcases hk with rfl|rfl|rfl
 all_goals
  go_enter Tryz.func123,Tryz.ntmps123
  go_wp2
  all_goals (go_ret;refine ⟨YW ?_,((YH _ _).alloc (Zw _) _).alloc Zi _⟩)
  all_goals (rw [HW.o];first|(simp [*];done)|(simp_all;done)|skip)
theorem MD (b:Nat) (T:ZN) (o:Op) (s:Wl) (sa ba ca:Option Addr) (sl sc bl bc cc:Nat) (w:World) (hR:ZL w b T) (hk:o.kind=6) :
  Calls Tryz.prog 123 (Ja (some ⟨b,0,none⟩) (Jm o sa sl sc ba bl bc) (Qp s.num s.own ca s.ss.length cc s.ZG)) w fun e w'=>e = .returned (.int .i64 (T.Xn o s))∧Below w w w':=by
 have CS:=Zh (fun (w1:World) (h:Below w w w1)=>Wy b T o.peer o.source w1 (hR.below h))
 obtain ⟨kd,p,n,q,nm,ss⟩:=o
 obtain ⟨s0,s1,s2,s3⟩:=s
 dsimp only at *
 subst hk
 have HW:Hid (T.Xn ⟨6,p,n,q,nm,ss⟩ ⟨s0,s1,s2,s3⟩=(if s1=p then 10 else if 0≤T.Zb p n then 9 else if decide (0≤q) && decide (q<s2.length) then 0 else 5)):=rfl
 clear hR
 generalize T.Xn ⟨6,p,n,q,nm,ss⟩ ⟨s0,s1,s2,s3⟩=wv at *
 generalize T.Zb p n=k at *
 generalize s2.length=sln at *
 go_enter Tryz.func123,Tryz.ntmps123
 go_wp2_with (go_at_call 51;refine (CS.o _ (((YH _ _).alloc (Zw _) _).alloc Zi _)).mono ?_;rintro e w1 ⟨rfl,YZ⟩;obtain ⟨Mp,KN⟩:=S3 YZ;have QV:=YZ.size)
 all_goals (go_ret;refine ⟨YW ?_,(((YH _ _).alloc (Zw _) _).alloc Zi _).trans (YZ.mono Uq)⟩)
 all_goals (rw [HW.o];first|(simp [*];done)|(simp_all;done)|(simp_all;omega)|skip)
theorem FY (b:Nat) (T:ZN) (o:Op) (s:Wl) (sa ba ca:Option Addr) (sl sc bl bc cc:Nat) (w:World) (hR:ZL w b T) (hk:o.kind=7∨o.kind=10∨o.kind=11∨o.kind=12) (hn:T.Zb o.peer o.source<0) :
  Calls Tryz.prog 123 (Ja (some ⟨b,0,none⟩) (Jm o sa sl sc ba bl bc) (Qp s.num s.own ca s.ss.length cc s.ZG)) w fun e w'=>e = .returned (.int .i64 (T.Xn o s))∧Below w w w':=by
 have CS:=Zh (fun (w1:World) (h:Below w w w1)=>Wy b T o.peer o.source w1 (hR.below h))
 have HW:Hid (T.Xn o s=8):=by show _=_;unfold ZN.Xn;rw [Z4 Zo,Z4 Zo,ZQ hn]
 obtain ⟨kd,p,n,q,nm,ss⟩:=o
 obtain ⟨s0,s1,s2,s3⟩:=s
 dsimp only at *
 clear hR
 generalize T.Xn ⟨kd,p,n,q,nm,ss⟩ ⟨s0,s1,s2,s3⟩=wv at *
 generalize T.Zb p n=k at *
 generalize s2.length=sln at *
 rcases hk with rfl|rfl|rfl|rfl
 all_goals
  go_enter Tryz.func123,Tryz.ntmps123
  go_wp2_with (go_at_call 51;refine (CS.o _ (((YH _ _).alloc (Zw _) _).alloc Zi _)).mono ?_;rintro e w1 ⟨rfl,YZ⟩;obtain ⟨Mp,KN⟩:=S3 YZ;have QV:=YZ.size)
  all_goals (go_ret;exact ⟨YW HW.o.symm,(((YH _ _).alloc (Zw _) _).alloc Zi _).trans (YZ.mono Uq)⟩)
end Go.Proofs.Rm
namespace Go.Proofs.Rm
open Go.RowKit Go.Proofs.Heap Go.Proofs.Mem
theorem Nv {l:List Vj} {k:Nat} (h:k<l.length):l.getD k qi=l[k]:=by
 rw [Rw,U7 h];rfl
theorem Ib (b:Nat) (T:ZN) (o:Op) (s:Wl) (sa ba ca:Option Addr) (sl sc bl bc cc:Nat) (w:World) (hR:ZL w b T) (hk:o.kind=7∨o.kind=10∨o.kind=11∨o.kind=12) (hn:0≤T.Zb o.peer o.source) :
  Calls Tryz.prog 123 (Ja (some ⟨b,0,none⟩) (Jm o sa sl sc ba bl bc) (Qp s.num s.own ca s.ss.length cc s.ZG)) w fun e w'=>e = .returned (.int .i64 (T.Xn o s))∧Below w w w':=by
 obtain ⟨k,VR,Sh,_,_⟩:=XL hn
 have Sh:T.Zb o.peer o.source=k:=Sh
 have CS:=Zh (fun (w1:World) (h:Below w w w1)=>Wy b T o.peer o.source w1 (hR.below h))
 have HR:=Zh hR
 have HW:Hid (T.Xn o s=(if o.kind=10∧T.Z5[k].ZR=true then 9 else if o.kind=11∧T.Z5[k].ZR=false then 11 else if o.kind=12∧QD s o.ZF=false then 5 else if o.kind=12∧T.Z5[k].want=o.ZF then 9 else 0)):=by
  show _=_;unfold ZN.Xn ZN.OZ;rw [Z4 Zo,Z4 Zo,Z4 Zo,Sh,Wv,Nv VR]
 rw [Sh] at CS
 obtain ⟨kd,p,n,q,nm,ss⟩:=o
 obtain ⟨s0,s1,s2,s3⟩:=s
 dsimp only at *
 unfold QD at HW
 dsimp only at HW
 clear hR Sh hn
 generalize T.Xn ⟨kd,p,n,q,nm,ss⟩ ⟨s0,s1,s2,s3⟩=wv at *
 generalize s2.length=sln at *
 rcases hk with rfl|rfl|rfl|rfl
 all_goals
  go_enter Tryz.func123,Tryz.ntmps123
  go_wp2_with fail
  refine (CS.o _ (((YH _ _).alloc (Zw _) _).alloc Zi _)).mono ?_
  rintro e w1 ⟨rfl,YZ⟩
  obtain ⟨Mp,KN⟩:=S3 YZ
  have QV:=YZ.size
  obtain ⟨pv,sv,uv,Yp,XM⟩:=((HR.o.below (((YH _ _).alloc (Zw _) _).alloc Zi _)).below YZ).VC
  have m1:=XM.Z5.len
  have c2:=cell_of Yp 2
  have Z0:=XM.Z5
  obtain ⟨pa,pc,rfl,_⟩:=id Z0
  obtain ⟨g,off,e1,hc⟩:=O0 Z0 Zo
  subst e1
  obtain ⟨d0,d1,d2,d3⟩:=hc k T.Z5[k] (U7 VR)
  have VQ:=Zh YZ
  clear hc Yp XM Z0 YZ
  generalize T.Z5[k].want=wt at *
  generalize T.Z5[k].ZR=ps at *
  go_wp2_with fail
 all_goals try (go_quiet (fail);go_wp2)
 all_goals (go_ret;refine ⟨YW ?_,?_⟩)
 all_goals try (first|exact (((YH _ _).alloc (Zw _) _).alloc Zi _).trans (VQ.o.mono Uq)|exact below_drewN ((((YH _ _).alloc (Zw _) _).alloc Zi _).trans (VQ.o.mono Uq)) _)
 all_goals (rw [HW.o];first|(simp [*];done)|(simp_all;done)|(simp_all;omega)|skip)
def ZN.ZM (p:Int) (T:ZN):Nat→List YD × ZN
 | 0=>([],T)
 | k+1=>let x:=ZN.ZM p T k;if 0≤x.2.Zb p ((k:Int)+1) then (x.1++[⟨2,p,(k:Int)+1,0,0⟩],x.2.WR p ((k:Int)+1)) else x
def ZN.ZI (p:Int) (T:ZN):Nat→List YD × ZN
 | 0=>([],T)
 | k+1=>let x:=ZN.ZI p T k;if x.2.owner ((k:Int)+1)=p then (x.1++(x.2.Yq ((k:Int)+1)).1,(x.2.Yq ((k:Int)+1)).2) else x
def ZN.leave (T:ZN) (p:Int):List YD × ZN:=
 ((ZN.ZM p T 8).1++(ZN.ZI p (ZN.ZM p T 8).2 8).1,(ZN.ZI p (ZN.ZM p T 8).2 8).2.OW p)
def ZN.ZJ (T:ZN) (n:Int) (on:Bool):ZN:={T with Yk:=T.Yk.set (T.YU n).toNat {T.Wc n with ZG:=on} }
def ZN.Y5 (T:ZN) (n:Int) (on:Bool) (p:Nat):List YD:=
 if on then [⟨6,p,n,0,0⟩] else ⟨7,p,n,0,0⟩ :: (if (T.OZ p n).ZR then [] else [T.ask (T.OZ p n)])
def ZN.mute (T:ZN) (n:Int) (on:Bool):List YD × ZN:=(((T.ZJ n on).Zx n).flatMap ((T.ZJ n on).Y5 n on),T.ZJ n on)
def ZN.ZP (T:ZN) (p n:Int) (x:Vj):ZN:={T with Z5:=T.Z5.set (T.Zb p n).toNat x}
def ZN.changed (T:ZN) (o:Op) (kind:Int):Vj:=
 if kind=4 then {T.OZ o.peer o.source with ZR:=true} else if kind=5 then {T.OZ o.peer o.source with ZR:=false} else {T.OZ o.peer o.source with want:=o.ZF}
def ZN.change (T:ZN) (o:Op) (kind:Int):List YD × ZN:=
 let x:=T.changed o kind
 let T1:=T.ZP o.peer o.source x
 (⟨kind,o.peer,o.source,if kind=8 then o.ZF else 0,0⟩ :: (if x.ZR || (T1.Wc o.source).ZG then [] else [T1.ask x]),T1)
def ZN.M7 (T:ZN) (x:Vk):ZN:={T with ZA:=T.ZA++[x]}
def ZN.Ke (T:ZN) (x:Wl):ZN:={T with Yk:=T.Yk++[x]}
def ZN.Vm (T:ZN) (x:Vj):ZN:={T with Z5:=T.Z5++[x]}
def ZN.subscribe (T:ZN) (o:Op):List YD × ZN:=
 let x:Vj:=⟨o.peer,o.source,o.ZF,false⟩
 (⟨1,o.peer,o.source,o.ZF,0⟩ :: (if ((T.Vm x).Wc o.source).ZG then [⟨6,o.peer,o.source,0,0⟩] else [(T.Vm x).ask x]),T.Vm x)
def ZN.turns (T:ZN) (o:Op):List YD × ZN:=
 if o.kind=2 then ([],T.M7 ⟨o.peer,o.name⟩)
 else if o.kind=3 then T.leave o.peer
 else if o.kind=4 then ([],T.Ke ⟨o.source,o.peer,o.ZK,false⟩)
 else if o.kind=5 then T.Yq o.source
 else if o.kind=6 then T.subscribe o
 else if o.kind=7 then ([⟨2,o.peer,o.source,0,0⟩],T.WR o.peer o.source)
 else if o.kind=8 then T.mute o.source true
 else if o.kind=9 then T.mute o.source false
 else if o.kind=10 then T.change o 4
 else if o.kind=11 then T.change o 5
 else T.change o 8
def ZN.Wm (T:ZN) (o:Op):(List YD × ZN) × Int:=if T.X5 o≠0 then (([],T),T.X5 o) else (T.turns o,0)
def ZN.YS (T:ZN) (p x:Int):(List YD × ZN) × Int:=
 if !(T.of x).2.2 || decide (T.XI p<0) || decide (T.owner (T.of x).1≠p) then (([],T),8) else (T.Yq (T.of x).1,0)
def small:Nat:=100000
structure ZN.Small (T:ZN):Prop where
 ZA:T.ZA.length≤small
 Yk:T.Yk.length≤small
 Z5:T.Z5.length≤small
theorem ZL.F8 {w:World} {b:Nat} {T:ZN} (h:ZL w b T) {e:TypeId} (he:e≠91):∀ k c fr,k=b→w.heap[k]?≠some (.cells c e fr):=by
 obtain ⟨_,_,_,hc,_⟩:=h.VC
 intro k c fr hk
 subst hk
 rw [hc]
 exact Ux (fun h=>he h.symm)
theorem ZL.YC {w:World} {b:Nat} {T:ZN} (h:ZL w b T) (j:Nat):w.frozen? ⟨b,j,none⟩=false:=by
 obtain ⟨_,_,_,hc,_⟩:=h.VC
 simp [World.frozen?,hc]
theorem ZL.Bb {w:World} {b:Nat} {T:ZN} (h:ZL w b T) {v:Value} {l:List Vk} (hr:Row w 103 v l.length (l.flatMap Yz)):ZL (w.setCell ⟨b,0,none⟩ v) b {T with ZA:=l}:=by
 have t1:=h.F8 (e:=103) Zd
 have t2:=h.F8 (e:=108) Zd
 have t3:=h.F8 (e:=105) Zd
 have t4:=h.F8 (e:=66) Zd
 obtain ⟨pv,sv,uv,hc,ha,⟨ms,YZ,Y0,VH⟩,Sg⟩:=h.VC
 have hf:Fr w (· = b) w (w.setCell ⟨b,0,none⟩ v):=(Fr.refl _ _ _).setAt _ _
 refine ⟨v,sv,uv,by simp [World.setCell,Array.getElem?_modify,hc],?_⟩
 exact ⟨hr.fr hf (Zw _) t1,⟨ms,YZ,Y0.fr hf (Zw _) t2,fun m hm=>(VH m hm).fr hf (Zw _) t4⟩,Sg.fr hf (Zw _) t3⟩
theorem ZL.IB {w:World} {b:Nat} {T:ZN} (h:ZL w b T) {v:Value} (ms:List (Wl × Value)) {l:List Wl} (hl:ms.map Prod.fst=l) (hr:Row w 108 v ms.length (ms.flatMap Zt)) (T4:∀ m∈ms,Row w 66 m.2 m.1.ss.length (YO m.1.ss)) :
  ZL (w.setCell ⟨b,1,none⟩ v) b {T with Yk:=l}:=by
 have t1:=h.F8 (e:=103) Zd
 have t2:=h.F8 (e:=108) Zd
 have t3:=h.F8 (e:=105) Zd
 have t4:=h.F8 (e:=66) Zd
 obtain ⟨pv,sv,uv,hc,ha,_,Sg⟩:=h.VC
 have hf:Fr w (· = b) w (w.setCell ⟨b,1,none⟩ v):=(Fr.refl _ _ _).setAt _ _
 refine ⟨pv,v,uv,by simp [World.setCell,Array.getElem?_modify,hc],?_⟩
 exact ⟨ha.fr hf (Zw _) t1,⟨ms,hl,hr.fr hf (Zw _) t2,fun m hm=>(T4 m hm).fr hf (Zw _) t4⟩,Sg.fr hf (Zw _) t3⟩
theorem ZL.LN {w:World} {b:Nat} {T:ZN} (h:ZL w b T) {v:Value} {l:List Vj} (hr:Row w 105 v l.length (l.flatMap Zv)):ZL (w.setCell ⟨b,2,none⟩ v) b {T with Z5:=l}:=by
 have t1:=h.F8 (e:=103) Zd
 have t2:=h.F8 (e:=108) Zd
 have t3:=h.F8 (e:=105) Zd
 have t4:=h.F8 (e:=66) Zd
 obtain ⟨pv,sv,uv,hc,ha,⟨ms,YZ,Y0,VH⟩,Sg⟩:=h.VC
 have hf:Fr w (· = b) w (w.setCell ⟨b,2,none⟩ v):=(Fr.refl _ _ _).setAt _ _
 refine ⟨pv,sv,v,by simp [World.setCell,Array.getElem?_modify,hc],?_⟩
 exact ⟨ha.fr hf (Zw _) t1,⟨ms,YZ,Y0.fr hf (Zw _) t2,fun m hm=>(VH m hm).fr hf (Zw _) t4⟩,hr.fr hf (Zw _) t3⟩
end Go.Proofs.Rm
namespace Go.Proofs.Rm
open Go.RowKit Go.Proofs.Heap Go.Proofs.Mem
theorem TI (l:List Vj):∀ u∈l.flatMap Zv,u.oneCell'=true:=by
 intro u hu
 obtain ⟨x,_,hx⟩:=List.mem_flatMap.1 hu
 exact LW x u hx
theorem TH (l:List Vj):(l.flatMap Zv).length=l.length*4:=XK Zv 4 (fun _=>rfl) l
theorem Kk {α:Type} (f:α→List Value) (k:Nat) (hk:∀ x,(f x).length=k) (l:List α) (n:Nat):(l.flatMap f).take (n*k)=(l.take n).flatMap f:=by
 by_cases h:n≤l.length
 ·conv=>lhs;rw [←List.take_append_drop n l,O_]
  rw [List.take_append_of_le_length jJ,F5 jJ]
 ·rw [F5 (by rw [XK f k hk];exact Nat.mul_le_mul_right k Zo),F5 Zo]
theorem Kj {α:Type} (f:α→List Value) (k:Nat) (hk:∀ x,(f x).length=k) (l:List α) (n:Nat):(l.flatMap f).drop (n*k)=(l.drop n).flatMap f:=by
 by_cases h:n≤l.length
 ·conv=>lhs;rw [←List.take_append_drop n l,O_]
  rw [List.drop_append_of_le_length jJ,List.drop_of_length_le jJ,Jy]
 ·rw [List.drop_of_length_le (by rw [XK f k hk];exact Nat.mul_le_mul_right k Zo),List.drop_of_length_le Zo];rfl
theorem T_ {w w3:World} {cs:Array Value} {e:TypeId} (h:Below (w.heap.size+1) (w.alloc (.cells cs e)) w3) (j:Nat):w3.cell? ⟨w,j,none⟩=cs[j]?∧w3.frozen? ⟨w,j,none⟩=false:=by
 have hb:=h.block w.heap.size Zo
 rw [Z7] at hb
 exact ⟨by simp only [World.cell?,hb];rfl,by simp [World.frozen?,hb]⟩
def Tf (w:World) (g:Nat):Prop:=∃ c f,w.heap[g]?=some (.cells c 158 f)
theorem Tf.set {w:World} {g:Nat} (h:Tf w g) (a:Addr) (u:Value):Tf (w.setCell a u) g:=by
 obtain ⟨c,f,h⟩:=h
 unfold Tf
 by_cases e:a.block=g
 ·subst e
  simp [World.setCell,Array.getElem?_modify,h]
 ·refine ⟨c,f,?_⟩
  simp [World.setCell,Array.getElem?_modify,e,h]
theorem Tf.drew {w:World} {g:Nat} (h:Tf w g):Tf w.drew g:=h
theorem Tf.Z8 {w w3:World} {cs:Array Value} (h:Below (w.heap.size+1) (w.alloc (.cells cs 158)) w3):Tf w3 w.heap.size:=by
 have hb:=h.block w.heap.size Zo
 rw [Z7] at hb
 exact ⟨_,_,hb⟩
theorem ZL.LO {w:World} {b:Nat} {T:ZN} (h:ZL w b T) {g:Nat} (hg:Tf w g) (j:Nat) (u:Value):ZL (w.setCell ⟨g,j,none⟩ u) b T:=by
 obtain ⟨c,f,hg⟩:=hg
 have hf:Fr w (· = g) w (w.setCell ⟨g,j,none⟩ u):=(Fr.refl _ _ _).setAt _ _
 have Ip:∀ e,158≠e→∀ k c fr,k=g→w.heap[k]?≠some (.cells c e fr):=by
  intro e he k c fr hk
  subst hk
  rw [hg]
  exact Ux he
 have hb:=h.lt
 obtain ⟨pv,sv,uv,hc,ht⟩:=h.VC
 exact ⟨pv,sv,uv,by rw [hf.block b hb (fun e=>Ip _ Zd b _ _ e hc)];exact hc,ht.fr hf (Zw _) (Ip _ Zd) (Ip _ Zd) (Ip _ Zd) (Ip _ Zd)⟩
theorem ZL.drew {w:World} {b:Nat} {T:ZN} (h:ZL w b T):ZL w.drew b T:=h.below (YH _ _).drew
theorem ZL.alloc {w:World} {b:Nat} {T:ZN} (h:ZL w b T) (o:Obj):ZL (w.alloc o) b T:=h.below (Z' _ _)
theorem Mh (b:Nat) (T:ZN) (p n:Int) (w:World) (hR:ZL w b T) (hs:T.Small) (hh:0≤T.Zb p n) :
  Calls Tryz.prog 100 (Qs (some ⟨b,0,none⟩) p n) w fun e w'=>e = .returned (V8 ⟨2,p,n,0,0⟩)∧ZL w' b (T.WR p n)∧Fr w (· = b) w w':=by
 obtain ⟨k,hk,Sh,-,-⟩:=XL hh
 have Sh:T.Zb p n=k:=Sh
 have CS:=Zh (fun (w1:World) (h:Below w w w1)=>Wy b T p n w1 (hR.below h))
 rw [Sh] at CS
 have hb:=hR.lt
 have HR:=Zh hR
 have HE:Hid (T.WR p n={T with Z5:=T.Z5.take k++T.Z5.drop (k+1)}):=by show _=_;unfold ZN.WR;rw [Sh,Wv,List.eraseIdx_eq_take_drop_succ]
 have Vq:=hs.Z5
 unfold small at Vq
 obtain ⟨pv,sv,uv,Yp,XM⟩:=hR.VC
 have Z0:=XM.Z5
 have hlen:=Z0.len
 obtain ⟨a,cap,rfl,Pq,wR,-,-⟩:=id Z0
 obtain ⟨a1,run1,A4,_⟩:=Sy Ur a T.Z5.length cap k Zo
 obtain ⟨a2,qE,A5,_⟩:=SV Ur a T.Z5.length cap (k+1) Zo Pq
 rw [show (((k+1:Nat):Int))=(k:Int)+1 by omega] at qE
 have zF:Hid (∀ w',Below w w w'→Row w' 105 (.slice a1 k cap) k ((T.Z5.take k).flatMap Zv)):=fun w' h=>by
  have:=A4 w' _ Zo (TH _) (Z0.below h)
  rwa [Kk Zv 4 (fun _=>rfl)] at this
 have DY:Hid (∀ w',Below w w w'→Row w' 105 (.slice a2 (T.Z5.length-(k+1)) (cap-(k+1))) (T.Z5.length-(k+1)) ((T.Z5.drop (k+1)).flatMap Zv)):=fun w' h=>by
  have:=A5 w' _ (TH _) (Z0.below h)
  rwa [Kj Zv 4 (fun _=>rfl)] at this
 have Gf:Hid (((T.Z5.take k).flatMap Zv).length=k*4):=by show _=_;rw [TH,Tg,Nat.min_eq_left Zo]
 have uD:Hid (((T.Z5.drop (k+1)).flatMap Zv).length=(T.Z5.length-(k+1))*4):=by show _=_;rw [TH,Rx]
 have HL3:Hid ((T.Z5.take k++T.Z5.drop (k+1)).length=k+(T.Z5.length-(k+1))):=by show _=_;rw [UM,Tg,Rx,Nat.min_eq_left Zo]
 have HC:Hid (∀ w',Below w w w'→w'.cell? ⟨b,2,none⟩=some (.slice a T.Z5.length cap)):=fun w' h=>(h.cell (p:=⟨b,2,none⟩) hb).trans (cell_of Yp 2)
 have sY:k+1≤T.Z5.length:=hk
 clear hR XM Yp Z0 A4 A5 Sh hh hs
 generalize T.Z5.length=N at *
 have KN:=HR.o.YC 2
 have HFZ:Hid (∀ w',Below w w w'→w'.frozen? ⟨b,2,none⟩=false):=fun w' h=>(h.frozen (p:=⟨b,2,none⟩) hb).trans KN
 clear KN
 go_enter Tryz.func100,Tryz.ntmps100
 go_wp2_with fail
 have fL:Hid (∀ w',Below (w.heap.size+1) (w.alloc (.cells (Qh 0 0 0 0 0) 158)) w'→Below w w w'):=fun w' h=>(Z' w _).trans (h.mono Zo)
 refine (CS.o _ (Z' _ _)).mono ?_
 rintro e w1 ⟨rfl,YZ⟩
 have W9:Below (w.heap.size+1) (w.alloc (.cells (Qh 0 0 0 0 0) 158)) w1:=by have:=YZ;rwa [World.size_alloc] at this
 have R_:=W9.size
 rw [World.size_alloc] at R_
 have mo:IntKind.i64.wrap ((k:Int)+1)=(k:Int)+1:=Ty _ Zo
 have Bx:=HC.o _ (fL.o _ W9)
 clear YZ
 go_wp2_with fail
 go_region_law (first|(refine Zp Zr (.const (.slice none 0 0)) (.tmp 18) 49 Zr (w.heap.size+1) Ur (.slice none 0 0) 0 [] Zr (Ua _ _ _ _) (.slice a1 k cap) k ((T.Z5.take k).flatMap Zv) Zr ?_ Gf.o (TI _) Zo Zo ?_ ?_;(exact zF.o _ (fL.o _ zK));(exact PW (Nat.le_of_eq (World.size_alloc w _).symm) (Below.size zK));intro v1 w2 BQ O5;have Yt:Below (w.heap.size+1) (w.alloc (.cells (Qh 0 0 0 0 0) 158)) w2:=Below.grown zK O5.o (PW (Nat.le_of_eq (World.size_alloc w _).symm) (Below.size zK)) (YL (Ua w1 _ 105 4));have c2:=HC.o _ (fL.o _ Yt))|(refine Zp Zr (.tmp 19) (.tmp 26) 49 Zr (w.heap.size+1) Ur v1 (0+k) ([]++(T.Z5.take k).flatMap Zv) Zr ?_ (.slice a2 (N-(k+1)) (cap-(k+1))) (N-(k+1)) ((T.Z5.drop (k+1)).flatMap Zv) Zr ?_ uD.o (TI _) Zo Zo ?_ ?_;(first|exact BQ.o|exact Xi BQ.o);(exact DY.o _ (fL.o _ zK));(exact PW (Nat.le_of_eq (World.size_alloc w _).symm) (Below.size zK));intro v2 w3 NV KS;have Wp:Below (w.heap.size+1) (w.alloc (.cells (Qh 0 0 0 0 0) 158)) w3:=Below.grown zK KS.o (PW (Nat.le_of_eq (World.size_alloc w _).symm) (Below.size zK)) (YL BQ.o);have c3:=HC.o _ (fL.o _ Wp);have f3:=HFZ.o _ (fL.o _ Wp);obtain ⟨va,vc,hv⟩:=WI NV.o;subst hv))
 all_goals
  have d0:w3.cell? ⟨w,0,none⟩=some (.int .i64 0):=(T_ Wp 0).1
  have d1:w3.cell? ⟨w,1,none⟩=some (.int .i64 0):=(T_ Wp 1).1
  have d2:w3.cell? ⟨w,2,none⟩=some (.int .i64 0):=(T_ Wp 2).1
  have d3:w3.cell? ⟨w,3,none⟩=some (.int .i64 0):=(T_ Wp 3).1
  have d4:w3.cell? ⟨w,4,none⟩=some (.int .u32 0):=(T_ Wp 4).1
  have z0:=(T_ Wp 0).2
  have z1:=(T_ Wp 1).2
  have z2:=(T_ Wp 2).2
  have z3:=(T_ Wp 3).2
  have z4:=(T_ Wp 4).2
  have WM:¬b=w.heap.size:=by omega
  have hne2:¬w.heap.size=b:=by omega
  go_wp2
  have Z0:=Row.Z6 NV.o
  rw [Jy,←O_,QP] at Z0
  have FA:ZL w3 b T:=HR.o.below (fL.o _ Wp)
  have NB:k+(N-(k+1))=(T.Z5.take k++T.Z5.drop (k+1)).length:=by rw [HL3.o]
  rw [NB] at Z0
  have Ap:=FA.LN Z0
  rw [←NB] at Ap
  refine VJ (v:=V8 ⟨2,p,n,0,0⟩) (by simp [results,Tryz.results100,go_sem,V8,d0,d1,d2,d3,d4]) rfl ⟨rfl,?_,?_⟩
  ·rw [HE.o]
   have ht:=(Tf.Z8 Wp)
   exact ((((Ap.LO (ht.set _ _) 0 _).LO ((ht.set _ _).set _ _) 1 _).LO (((ht.set _ _).set _ _).set _ _) 2 _).LO ((((ht.set _ _).set _ _).set _ _).set _ _) 3 _).LO (((((ht.set _ _).set _ _).set _ _).set _ _).set _ _) 4 _
  ·exact (((((((Fr.Z8 _ (fL.o _ Wp)).setAt _ _).setCell (Ww (Zw _)) _).setCell (Ww (Zw _)) _).setCell (Ww (Zw _)) _).setCell (Ww (Zw _)) _).setCell (Ww (Zw _)) _)
end Go.Proofs.Rm
