/- Part of a proof. -/
import Derived.Test.YtpdjhlcbcomdkaaGreatDoorR12
set_option linter.unusedVariables false
set_option linter.unusedSimpArgs false
set_option maxRecDepth 100000
set_option maxHeartbeats 16000000
open Go Go.Q Go.Qr
namespace Go.Proofs.Rm
open Go.RowKit Go.Proofs.Heap Go.Proofs.Mem
theorem SA (b:Nat) (T:ZN) (n:Int) (w:World) (hR:ZL w b T) :
  Calls Tryz.prog 48 (Qk (some ⟨b,0,none⟩) n) w fun e w'=>e = .returned (.int .i64 (T.XF n))∧Below w w w':=by
 obtain ⟨pv,sv,uv,Yn,XJ⟩:=hR.Vw;have hb:=hR.lt;have hlen:=XJ.ZA.len;have c0:=cell_of Yn 0;have HP:Hid (∀ w',Below w w w'→Row w' 103 pv T.ZA.length (T.ZA.flatMap Yx)):=fun w' h=>XJ.ZA.below h
 obtain ⟨pa,pc,rfl,_⟩:=id XJ.ZA;have IM:Hid (T.XF n=findAt (fun x:Vc=>x.num == n) T.ZA):=rfl;clear hR XJ Yn;generalize T.ZA=P at *
 go_enter Tryz.func48,Tryz.ntmps48;go_wp2;go_loopw [12] (fun i w'=>∃ k:Nat,k≤P.length∧i = .int .i64 k∧Below w w w'∧Hid (∀ j (h:j<P.length),j<k→(fun x:Vc=>x.num == n) P[j]=false)) (fun i _=>P.length-(intOf i).toNat)
 case atStart=>exact ⟨0,Zo,rfl,YJ _ _,fun j h hj=>by omega⟩
 case round=>
  obtain ⟨k,hk,rfl,W8,HN⟩:=hrel;by_cases VK:k<P.length
  ·obtain ⟨g,off,e1,hc⟩:=u9 (HP.o wr W8) Zo;subst e1;obtain ⟨d0,d1⟩:=hc k P[k] (Vb VK);have HH:Hid ((fun x:Vc=>x.num == n) P[k]=true→T.XF n=k):=fun h=>by rw [IM.o];exact Og VK h HN.o
   have HM:Hid ((fun x:Vc=>x.num == n) P[k]=false→∀ j (h:j<P.length),j<k+1→(fun x:Vc=>x.num == n) P[j]=false):=fun h j hj JC=>by
    by_cases e:j=k
    ·subst e;exact h
    ·exact HN.o j hj Zo
   clear hc;generalize P[k]=x at *
   obtain ⟨x0,x1⟩:=x;dsimp only at d0 d1 HH HM;exact fB
  ·have HF:Hid (T.XF n = -1):=by show _=_;rw [IM.o];exact R9 fun j h=>HN.o j h Zo
   go_wp2;go_ret;exact ⟨YW HF.o.symm,W8⟩
theorem VW (b:Nat) (T:ZN) (n:Int) (w:World) (hR:ZL w b T) :
  Calls Tryz.prog 49 (Qk (some ⟨b,0,none⟩) n) w fun e w'=>e = .returned (.int .i64 (T.YU n))∧Below w w w':=by
 obtain ⟨pv,sv,uv,Yn,XJ⟩:=hR.Vw;have hb:=hR.lt;obtain ⟨P,Tt,ZY,Uc⟩:=XJ.Yg;have hlen:=ZY.len;have c0:=cell_of Yn 1;have HP:Hid (∀ w',Below w w w'→Row w' 108 sv P.length (P.flatMap Zq)):=fun w' h=>ZY.below h
 have HV:Hid (∀ m∈P,∃ a k c,m.2 = .slice a k c):=fun m hm=>by
  obtain ⟨a,c,h,_⟩:=Uc m hm;exact ⟨a,_,c,h⟩
 obtain ⟨pa,pc,rfl,_⟩:=id ZY;have IM:Hid (T.YU n=findAt (fun x:Wl × Value=>x.1.num == n) P):=by show _=_;unfold ZN.YU;rw [←Tt,Gl]
 clear hR XJ Yn Tt ZY Uc;go_enter Tryz.func49,Tryz.ntmps49;go_wp2;go_loopw [12] (fun i w'=>∃ k:Nat,k≤P.length∧i = .int .i64 k∧Below w w w'∧Hid (∀ j (h:j<P.length),j<k→(fun x:Wl × Value=>x.1.num == n) P[j]=false)) (fun i _=>P.length-(intOf i).toNat)
 case atStart=>exact ⟨0,Zo,rfl,YJ _ _,fun j h hj=>by omega⟩
 case round=>
  obtain ⟨k,hk,rfl,W8,HN⟩:=hrel;by_cases VK:k<P.length
  ·obtain ⟨g,off,e1,hc⟩:=Sw (HP.o wr W8) Zo;subst e1;obtain ⟨d0,d1,d2,d3⟩:=hc k P[k] (Vb VK);obtain ⟨va,vk,vc,hv⟩:=HV.o P[k] (PA VK);rw [hv] at d2;have HH:Hid ((fun x:Wl × Value=>x.1.num == n) P[k]=true→T.YU n=k):=fun h=>by rw [IM.o];exact Og VK h HN.o
   have HM:Hid ((fun x:Wl × Value=>x.1.num == n) P[k]=false→∀ j (h:j<P.length),j<k+1→(fun x:Wl × Value=>x.1.num == n) P[j]=false):=fun h j hj JC=>by
    by_cases e:j=k
    ·subst e;exact h
    ·exact HN.o j hj Zo
   clear hc hv;generalize P[k]=x at *
   obtain ⟨⟨x0,x1,x2,x3⟩,x4⟩:=x;dsimp only at d0 d1 d3 HH HM;exact fB
  ·have HF:Hid (T.YU n = -1):=by show _=_;rw [IM.o];exact R9 fun j h=>HN.o j h Zo
   go_wp2;go_ret;exact ⟨YW HF.o.symm,W8⟩
theorem Wv (b:Nat) (T:ZN) (p n:Int) (w:World) (hR:ZL w b T) :
  Calls Tryz.prog 51 (Qu (some ⟨b,0,none⟩) p n) w fun e w'=>e = .returned (.int .i64 (T.Y9 p n))∧Below w w w':=by
 obtain ⟨pv,sv,uv,Yn,XJ⟩:=hR.Vw;have hb:=hR.lt;have hlen:=XJ.Z0.len;have c0:=cell_of Yn 2;have HP:Hid (∀ w',Below w w w'→Row w' 105 uv T.Z0.length (T.Z0.flatMap Zt)):=fun w' h=>XJ.Z0.below h
 obtain ⟨pa,pc,rfl,_⟩:=id XJ.Z0;have IM:Hid (T.Y9 p n=findAt (fun x:Va=>x.peer == p && x.source == n) T.Z0):=rfl;clear hR XJ Yn;generalize T.Z0=P at *
 go_enter Tryz.func51,Tryz.ntmps51;go_wp2;go_loopw [14] (fun i w'=>∃ k:Nat,k≤P.length∧i = .int .i64 k∧Below w w w'∧Hid (∀ j (h:j<P.length),j<k→(fun x:Va=>x.peer == p && x.source == n) P[j]=false)) (fun i _=>P.length-(intOf i).toNat)
 case atStart=>exact ⟨0,Zo,rfl,YJ _ _,fun j h hj=>by omega⟩
 case round=>
  obtain ⟨k,hk,rfl,W8,HN⟩:=hrel;by_cases VK:k<P.length
  ·obtain ⟨g,off,e1,hc⟩:=OE (HP.o wr W8) Zo;subst e1;obtain ⟨d0,d1,d2,d3⟩:=hc k P[k] (Vb VK);have HH:Hid ((fun x:Va=>x.peer == p && x.source == n) P[k]=true→T.Y9 p n=k):=fun h=>by rw [IM.o];exact Og VK h HN.o
   have HM:Hid ((fun x:Va=>x.peer == p && x.source == n) P[k]=false→∀ j (h:j<P.length),j<k+1→(fun x:Va=>x.peer == p && x.source == n) P[j]=false):=fun h j hj JC=>by
    by_cases e:j=k
    ·subst e;exact h
    ·exact HN.o j hj Zo
   clear hc;generalize P[k]=x at *
   obtain ⟨x0,x1,x2,x3⟩:=x;dsimp only at d0 d1 d2 d3 HH HM;by_cases hx:x0=p
   ·by_cases hy:x1=n
    ·have HF:=Zh (HH.o (by rw [hx,hy];simp));subst hx hy;go_wp2;go_ret;exact ⟨YW HF.o.symm,W8.alloc W8.size _⟩
    ·have uE:(x1 == n)=false:=by rw [WR];exact hy
     have HF:=Zh (HM.o (by rw [uE,Bool.and_false]));subst hx;clear hy;exact jt
   ·have uE:(x0 == p)=false:=by rw [WR];exact hx
    have HF:=Zh (HM.o (by rw [uE,Bool.false_and]));clear hx;exact jt
  ·have HF:Hid (T.Y9 p n = -1):=by show _=_;rw [IM.o];exact R9 fun j h=>HN.o j h Zo
   go_wp2;go_ret;exact ⟨YW HF.o.symm,W8⟩
theorem Uj {l:List (Wl × Value)} {k:Nat} (h:k<l.length):(l.map Prod.fst).getD k UG=l[k].1:=by
 rw [SC,List.getElem?_map,Vb h];rfl
theorem getD_at {l:List Int} {k:Nat} (h:k<l.length):l.getD k 0=l[k]:=by
 rw [SC,Vb h];rfl
theorem M6 (b:Nat) (T:ZN) (x:Int) (w:World) (hR:ZL w b T) :
  Calls Tryz.prog 74 (Jg (some ⟨b,0,none⟩) x) w fun e w'=>e = .returned (.tuple (Q5 (T.of x).1 (T.of x).2.1 (T.of x).2.2))∧Below w w w':=by
 obtain ⟨pv,sv,uv,Yn,XJ⟩:=hR.Vw;have hb:=hR.lt;obtain ⟨P,Tt,ZY,Uc⟩:=XJ.Yg;have hlen:=ZY.len;have c0:=cell_of Yn 1;have HP:Hid (∀ w',Below w w w'→Row w' 108 sv P.length (P.flatMap Zq)∧∀ m∈P,Row w' 66 m.2 m.1.ss.length (YO m.1.ss)):=fun w' h=>⟨ZY.below h,fun m hm=>(Uc m hm).below h⟩
 obtain ⟨pa,pc,rfl,_⟩:=id ZY;have IM:Hid (T.RH x=findAt (fun s:Wl × Value=>s.1.ss.contains x) P):=by show _=_;unfold ZN.RH;rw [←Tt,Gl]
 have HOF:Hid (T.of x=if T.RH x<0 then (0,0,false) else ((T.Yg.getD (T.RH x).toNat UG).num,index (T.Yg.getD (T.RH x).toNat UG).ss x,true)):=rfl;have iH:=Zh Tt;clear hR XJ Yn Tt ZY Uc;go_enter Tryz.func74,Tryz.ntmps74;go_wp2;go_loopw [16] (fun i w'=>∃ k:Nat,k≤P.length∧i = .int .i64 k∧Below w w w'∧Hid (∀ j (h:j<P.length),j<k→(fun s:Wl × Value=>s.1.ss.contains x) P[j]=false)) (fun i _=>P.length-(intOf i).toNat)
 case atStart=>exact ⟨0,Zo,rfl,YJ _ _,fun j h hj=>by omega⟩
 case round=>
  obtain ⟨k,hk,rfl,W8,HN⟩:=hrel;by_cases VK:k<P.length
  ·obtain ⟨g,off,e1,hc⟩:=Sw (HP.o wr W8).1 Zo;subst e1;obtain ⟨d0,d1,d2,d3⟩:=hc k P[k] (Vb VK);have hr:=(HP.o wr W8).2 P[k] (PA VK)
   have HH:Hid ((fun s:Wl × Value=>s.1.ss.contains x) P[k]=true→T.of x=(P[k].1.num,index P[k].1.ss x,true)):=fun h=>by
    have e:=Og (p:=fun s:Wl × Value=>s.1.ss.contains x) VK h HN.o;rw [HOF.o,IM.o,e,Z4 Zo,Wz,←iH.o,Uj VK]
   have HM:Hid ((fun s:Wl × Value=>s.1.ss.contains x) P[k]=false→∀ j (h:j<P.length),j<k+1→(fun s:Wl × Value=>s.1.ss.contains x) P[j]=false):=fun h j hj JC=>by
    by_cases e:j=k
    ·subst e;exact h
    ·exact HN.o j hj Zo
   clear hc;generalize P[k]=y at *
   obtain ⟨⟨x0,x1,x2,x3⟩,x4⟩:=y;dsimp only at d0 d1 d2 d3 HH HM hr;have qL:=hr.len;obtain ⟨ya,yc,rfl,_⟩:=id hr
   have Sz:Hid (0<x2.length→∃ g off,ya=some ⟨g,off,none⟩∧g<wr.heap.size∧∀ j,j<x2.length→wr.cell? ⟨g,off+j,none⟩=some (.int .u32 (x2.getD j 0))):=fun h=>by
    obtain ⟨g,off,cap,e1,_,_,hg,hc⟩:=NC hr h;exact ⟨g,off,(slice_inj e1).1,hg,hc⟩
   clear hr;obtain ⟨wo,rfl⟩:∃ wo:World,wo=wr:=⟨_,rfl⟩;go_wp2
   go_loop [23] (fun i=>∃ m:Nat,m≤x2.length∧i = .int .i64 m∧Hid (∀ j,j<m→x2.getD j 0≠x)) (fun i=>x2.length-(intOf i).toNat)
   case atStart=>exact ⟨0,Zo,rfl,fun j hj=>by omega⟩
   case round=>
    obtain ⟨m,hm,rfl,HNO⟩:=hrel;by_cases MJ:m<x2.length
    ·obtain ⟨g3,off3,e3,hg3,lu⟩:=Sz.o Zo;subst e3;have hd:=lu m MJ;clear lu;by_cases hx:x2.getD m 0=x
     ·have HF:=Zh (HH.o (by rw [List.contains_iff_mem,←hx,getD_at MJ];exact PA MJ));have HI:Hid (index x2 x=m):=index_hit MJ hx HNO.o;rw [hx] at hd;clear hx;go_wp2
      go_ret3
      exact ⟨by rw [HF.o,HI.o];rfl,W8.alloc W8.size _⟩
     ·have uE:(x2.getD m 0 == x)=false:=by rw [WR];exact hx
      have HX:=Zh hx;clear hx;generalize hy:x2.getD m 0=y at *
      have HY:=Zh hy;clear hy;go_wp2
      go_round
      case rel=>exact ⟨m+1,Zo,Zn,fun j hj=>by by_cases zX:j<m;exact HNO.o j zX;rw [show j=m by omega,HY.o];exact HX.o⟩
      case measure=>simp [intOf];omega
    ·have HF:=Zh (HM.o (by
      rw [KM];intro h;rw [List.contains_iff_mem] at h;obtain ⟨j,hj,e⟩:=List.getElem_of_mem h
      exact HNO.o j Zo (by rw [getD_at hj];exact e)))
     exact jt
  ·have HF:Hid (T.of x=(0,0,false)):=by
    show _=_;rw [HOF.o,IM.o,R9 (fun j h=>HN.o j h Zo),ZR Zd]
   go_wp2
   go_ret3
   exact ⟨by rw [HF.o];rfl,W8⟩
theorem Re (b:Nat) (T:ZN) (n:Int) (w:World) (hR:ZL w b T) :
  Calls Tryz.prog 75 (Qk (some ⟨b,0,none⟩) n) w fun e w'=>e = .returned (.int .i64 (T.owner n))∧Below w w w':=by
 have CS:=Zh (VW b T n w hR);have Mq:Hid (T.owner n=if T.YU n<0 then 0 else (T.Yg.getD (T.YU n).toNat UG).own):=rfl
 have HAT:Hid (0≤T.YU n→∃ k:Nat,k<T.Yg.length∧T.YU n=k):=fun h=>by
  obtain ⟨k,hk,e,_⟩:=XI h;exact ⟨k,hk,e⟩
 have hb:=hR.lt;have HR:=Zh hR;clear hR;by_cases dA:T.YU n<0
 ·have HF:Hid (T.owner n=0):=by show _=_;rw [Mq.o,ZR dA]
  generalize T.YU n=q at *
  go_enter Tryz.func75,Tryz.ntmps75;go_wp2_with (go_at_call 49;refine CS.o.mono ?_;rintro e w1 ⟨rfl,YY⟩)
  go_ret;exact ⟨YW HF.o.symm,YY⟩
 ·obtain ⟨k,hk,e⟩:=HAT.o Zo;have HF:Hid (T.owner n=(T.Yg.getD k UG).own):=by show _=_;rw [Mq.o,Z4 dA,e,Wz]
  rw [e] at CS;clear e dA HAT Mq;go_enter Tryz.func75,Tryz.ntmps75;go_wp2_with fail
  refine CS.o.mono ?_;rintro e w1 ⟨rfl,YY⟩;obtain ⟨pv,sv,uv,Yn,XJ⟩:=(HR.o.below YY).Vw;obtain ⟨P,Tt,ZY,Uc⟩:=XJ.Yg;have VK:k<P.length:=by rw [←Tt,TB] at hk;exact hk
  have hlen:=ZY.len;have c0:=cell_of Yn 1;obtain ⟨pa,pc,rfl,_⟩:=id ZY;obtain ⟨g,off,e1,hc⟩:=Sw ZY Zo;subst e1;obtain ⟨d0,d1,d2,d3⟩:=hc k P[k] (Vb VK);have HX:Hid ((T.Yg.getD k UG).own=P[k].1.own):=by show _=_;rw [←Tt,Uj VK]
  clear hc d0 d2 d3 XJ Yn Tt ZY Uc;generalize P[k].1.own=ow at *
  go_wp2;go_ret;exact ⟨YW (by rw [HF.o,HX.o]),YY⟩
theorem JY (b:Nat) (T:ZN) (n:Int) (w:World) (hR:ZL w b T) :
  Calls Tryz.prog 50 (Qk (some ⟨b,0,none⟩) n) w fun e w'=>(∃ v,e = .returned v∧Row w' 3 v (T.Zv n).length (ints (T.Zv n)))∧Below w w w':=by
 have HR:=Zh hR;have hb:=hR.lt;have HS:Hid (T.Zv n=T.Vt n 8):=rfl;clear hR;go_enter Tryz.func50,Tryz.ntmps50;go_wp2;go_loopw [5,6] (fun v i w'=>∃ k:Nat,k≤8∧i = .int .i64 ((k:Int)+1)∧Below w w w'∧w'.ownsRow w 3 1 v (T.Vt n k).length (ints (T.Vt n k))) (fun _ i _=>9-(intOf i).toNat)
 case atStart=>exact ⟨0,Zo,rfl,YJ _ _,TY _ _ _ _⟩
 case round=>
  obtain ⟨k,hk,rfl,W8,YH⟩:=hrel;have Yh:=Zh YH;clear YH;by_cases ko:k<8
  ·have CS:=Zh (Wv b T ((k:Int)+1) n wr (HR.o.below W8));have qA:=Zh (Cl T n k);have Ky:=Sa T n k;by_cases hs:0≤T.Y9 ((k:Int)+1) n
   ·have HF:Hid (T.Vt n (k+1)=T.Vt n k++[k+1]):=by show _=_;rw [qA.o,ZR hs]
    generalize T.Y9 ((k:Int)+1) n=q at *
    generalize T.Vt n k=G at *
    go_wp2_with (first|(go_at_call 51;refine CS.o.mono ?_;rintro e w1 ⟨rfl,YY⟩)|(at_builtin;refine YV rfl (.tmp 16) (.tmp 18) 72 rfl w.heap.size W_ _ G.length (ints G) rfl ?a1 _ 1 [.int .i64 ((k:Int)+1)] rfl ?a2 rfl ?a4 ?a5 ?a6 ?a7 (fun v' w2 NH HG=>?_)))
    case a1=>exact (Zx Yh.o YY).alloc _
    case a2=>exact Yr _ _ 1 _ [.int .i64 ((k:Int)+1)] Zd Zi
    case a4=>intro u hu;simp at hu;subst hu;rfl
    case a5=>omega
    case a6=>omega
    case a7=>have h1:=W8.size;have h2:=YY.size;simp;omega
    go_roundw
    case rel=>
     refine ⟨k+1,Zo,Zn,?_,?_⟩
     ·have h1:=W8.trans (YY.mono W8.size);have h2:=h1.alloc h1.size (.cells #[.int .i64 ((k:Int)+1)] 3);exact h2.grown HG.o h2.size (YL Yh.o)
     ·rw [HF.o,UE,JH];exact NH.o
    case measure=>simp [intOf];omega
   ·have HF:Hid (T.Vt n (k+1)=T.Vt n k):=by show _=_;rw [qA.o,Z4 hs,um]
    generalize T.Y9 ((k:Int)+1) n=q at *
    go_wp2_with (go_at_call 51;refine CS.o.mono ?_;rintro e w1 ⟨rfl,YY⟩)
    go_roundw
    case rel=>
     refine ⟨k+1,Zo,Zn,W8.trans (YY.mono W8.size),?_⟩;rw [HF.o];exact Zx Yh.o YY
    case measure=>simp [intOf];omega
  ·have gM:k=8:=by omega
   subst gM;go_wp2;go_ret;exact ⟨⟨_,rfl,by rw [HS.o];exact Row.Z6 Yh.o⟩,W8⟩
end Go.Proofs.Rm
namespace Go.Proofs.Rm
open Go.RowKit Go.Proofs.Heap Go.Proofs.Mem
theorem Dl (T:ZN) (l:List Int) (k:Nat):T.Vv l k=((l.take k).contains (l.getD k 0) || (T.of (l.getD k 0)).2.2):=rfl
theorem Hq (b:Nat) (T:ZN) (o:Op) (at':Int) (sa ba:Option Addr) (sc bl bc:Nat) (w:World) (hR:ZL w b T)
  (ZY:XR w (.slice sa o.ZK.length sc) o.ZK.length (YO o.ZK)) :
  Calls Tryz.prog 122 (Q4 (some ⟨b,0,none⟩) (Jo o sa o.ZK.length sc ba bl bc) at') w fun e w'=>e = .returned (.int .i64 (T.TM o at'))∧Below w w w':=by
 have CO:=Zh (fun (w1:World) (x:Int) (h:Below w w w1)=>M6 b T x w1 (hR.below h));obtain ⟨kd,p,n,q,nm,ss⟩:=o;have hb:=hR.lt;have HP:Hid (T.TM ⟨kd,p,n,q,nm,ss⟩ at'=(if ss.length<1∨3<ss.length then 5 else if ss.any (fun s=>decide (s<2) || decide (3221225472≤s)) then 5 else if 0≤at' then 9 else if (List.range ss.length).any (T.Vv ss) then 9 else 0)):=rfl;dsimp only at *
 have hlen:=ZY.len;clear hR;generalize T.TM ⟨kd,p,n,q,nm,ss⟩ at'=Dc at *
 by_cases h1:ss.length<1
 ·have HF:Hid (Dc=5):=by show _=_;rw [HP.o,ZR (Ws h1)]
  exact fQ
 by_cases h2:3<ss.length
 ·have HF:Hid (Dc=5):=by show _=_;rw [HP.o,ZR (Wh h2)]
  exact fQ
 have mn:Hid (Dc=(if ss.any (fun s=>decide (s<2) || decide (3221225472≤s)) then 5 else if 0≤at' then 9 else if (List.range ss.length).any (T.Vv ss) then 9 else 0)):=by
  show _=_;rw [HP.o,Z4 Zo]
 obtain ⟨g,off,cap,e1,_,_,hg,Yu⟩:=Ps ZY Zo;cases e1;have HC:=Zh Yu;have U':=Zh ZY;clear Yu ZY HP;go_enter Tryz.func122,Tryz.ntmps122;go_wp2
 go_loop [29] (fun i=>∃ k:Nat,k≤ss.length∧i = .int .i64 k∧Hid (∀ j,j<k→2≤ss.getD j 0∧ss.getD j 0<3221225472)) (fun i=>ss.length-(intOf i).toNat)
 case atStart=>exact ⟨0,Tk _,rfl,fun j hj=>by omega⟩
 case round=>
  obtain ⟨k,hk,rfl,KA⟩:=hrel;by_cases VK:k<ss.length
  ·exact Yx45
  ·have bf:Hid (Dc=if 0≤at' then 9 else if (List.range ss.length).any (T.Vv ss) then 9 else 0):=by
    exact fE
   clear KA mn;by_cases VQ:0≤at'
   ·have HF:Hid (Dc=9):=by show _=_;rw [bf.o,ZR VQ]
    go_wp2;go_ret;exact ⟨YW HF.o.symm,Z' _ _⟩
   ·have HP4:Hid (Dc=if (List.range ss.length).any (T.Vv ss) then 9 else 0):=by show _=_;rw [bf.o,Z4 VQ]
    clear bf;go_wp2;go_loopw [45] (fun i w'=>∃ k:Nat,k≤ss.length∧i = .int .i64 k∧Below w w w'∧w.heap.size<w'.heap.size∧w'.cell? ⟨w,5,none⟩=some (.slice (some ⟨g,off,none⟩) ss.length sc)∧Hid (∀ j,j<k→T.Vv ss j=false)) (fun i _=>ss.length-(intOf i).toNat)
    case atStart=>exact ⟨0,Tk _,rfl,Z' _ _,by simp,by simp,fun j hj=>by omega⟩
    case round=>
     obtain ⟨k,hk,rfl,W8,TR,Ck,KA⟩:=hrel;by_cases VK:k<ss.length
     ·have Ek:=U'.o.below W8;obtain ⟨g',off',cap',e1,_,_,hg',Yu⟩:=Ps Ek Zo;cases e1;have hc:=Yu k VK;have HCR:=Zh Yu;have eJ:=Zh (CO.o wr (ss.getD k 0) W8);have iQ:=Zh (Dl T ss k)
      have mj:Hid (T.Vv ss k=true→Dc=9):=by
       intro h;rw [HP4.o,ZR];rw [List.any_eq_true];exact ⟨k,by simpa using VK,h⟩
      clear Yu Ek;generalize T.of (ss.getD k 0)=O at *
      obtain ⟨o1,o2,o3⟩:=O;dsimp only at eJ iQ
      have HCN:Hid ((ss.take k).contains (ss.getD k 0)=true↔∃ j,j<k∧ss.getD j 0=ss.getD k 0):=by
       rw [Hid,List.contains_iff_mem,List.mem_iff_getElem];constructor
       ·rintro ⟨j,hj,e⟩;rw [S4] at hj;rw [List.getElem_take] at e;exact ⟨j,Zo,by rw [getD_at Zo];exact e⟩
       ·rintro ⟨j,hj,e⟩;exact ⟨j,by rw [S4];omega,by rw [List.getElem_take,←getD_at Zo];exact e⟩
      generalize (ss.take k).contains (ss.getD k 0)=cn at *
      generalize qO:ss.getD k 0=x at *
      clear qO;obtain ⟨wo,rfl⟩:∃ wo:World,wo=wr:=⟨_,rfl⟩;go_wp2
      go_loop [55] (fun i=>∃ m:Nat,m≤k∧i = .int .i64 m∧Hid (∀ j,j<m→ss.getD j 0≠x)) (fun i=>k-(intOf i).toNat)
      case atStart=>exact ⟨0,Zo,rfl,fun j hj=>by omega⟩
      case round=>
       obtain ⟨m,hm,rfl,HN⟩:=hrel;by_cases gS:m<k
       ·have hd:=HCR.o m Zo;by_cases hx:ss.getD m 0=x
        ·have HF:=Zh (mj.o (by rw [iQ.o,HCN.o.2 ⟨m,gS,hx⟩];rfl));rw [hx] at hd;clear hx;go_wp2;go_ret;exact ⟨YW HF.o.symm,W8⟩
        ·have uE:(x == ss.getD m 0)=false:=by rw [WR];exact fun e=>hx e.symm
         have HX:=Zh hx;clear hx;generalize hy:ss.getD m 0=y at *
         have HY:=Zh hy;clear hy;go_wp2
         go_round
         case rel=>exact ⟨m+1,Zo,Zn,fun j hj=>by by_cases zX:j<m;exact HN.o j zX;rw [show j=m by omega,HY.o];exact HX.o⟩
         case measure=>simp [intOf];omega
       ·have j3:cn=false:=by
         rw [KM];intro h;obtain ⟨j,hj,e⟩:=HCN.o.1 h;exact HN.o j Zo e
        cases o3
        ·have HF:Hid (T.Vv ss k=false):=by show _=_;rw [iQ.o,j3];rfl
         clear j3;go_wp2_with (go_at_call 74;refine eJ.o.mono ?_;rintro e w2 ⟨rfl,Y7⟩;have Jz:=(Y7.cell (p:=⟨w,5,none⟩) TR).trans Ck)
         exact fC
        ·have HF:=Zh (mj.o (by rw [iQ.o,Bool.or_true]));clear j3;go_wp2_with (go_at_call 74;refine eJ.o.mono ?_;rintro e w2 ⟨rfl,Y7⟩)
         go_ret;exact ⟨YW HF.o.symm,W8.trans (Y7.mono W8.size)⟩
     ·exact fH
theorem Dw (b:Nat) (T:ZN) (o:Op) (s:Wl) (sa ba ca:Option Addr) (sl sc bl bc cc:Nat) (w:World) (hk:o.kind=5∨o.kind=8∨o.kind=9) :
  Calls Tryz.prog 123 (Jb (some ⟨b,0,none⟩) (Jo o sa sl sc ba bl bc) (Qq s.num s.own ca s.ss.length cc s.ZE)) w fun e w'=>e = .returned (.int .i64 (T.Xk o s))∧Below w w w':=by
 obtain ⟨kd,p,n,q,nm,ss⟩:=o;obtain ⟨s0,s1,s2,s3⟩:=s;dsimp only at *
 have HW:Hid (T.Xk ⟨kd,p,n,q,nm,ss⟩ ⟨s0,s1,s2,s3⟩=(if s1≠p then 10 else if kd=8∧s3=true then 9 else if kd=9∧s3=false then 11 else 0)):=by
  show _=_;unfold ZN.Xk;dsimp only;rw [ZR hk]
 generalize T.Xk ⟨kd,p,n,q,nm,ss⟩ ⟨s0,s1,s2,s3⟩=wv at *
 rcases hk with rfl|rfl|rfl
 all_goals
  go_enter Tryz.func123,Tryz.ntmps123;go_wp2;all_goals (go_ret;refine ⟨YW ?_,((YJ _ _).alloc (Zw _) _).alloc Zi _⟩)
  all_goals (rw [HW.o];first|(simp [*];done)|(simp_all;done)|skip)
theorem Mp (b:Nat) (T:ZN) (o:Op) (s:Wl) (sa ba ca:Option Addr) (sl sc bl bc cc:Nat) (w:World) (hR:ZL w b T) (hk:o.kind=6) :
  Calls Tryz.prog 123 (Jb (some ⟨b,0,none⟩) (Jo o sa sl sc ba bl bc) (Qq s.num s.own ca s.ss.length cc s.ZE)) w fun e w'=>e = .returned (.int .i64 (T.Xk o s))∧Below w w w':=by
 have CS:=Zh (fun (w1:World) (h:Below w w w1)=>Wv b T o.peer o.source w1 (hR.below h));obtain ⟨kd,p,n,q,nm,ss⟩:=o;obtain ⟨s0,s1,s2,s3⟩:=s;dsimp only at *
 subst hk;have HW:Hid (T.Xk ⟨6,p,n,q,nm,ss⟩ ⟨s0,s1,s2,s3⟩=(if s1=p then 10 else if 0≤T.Y9 p n then 9 else if decide (0≤q) && decide (q<s2.length) then 0 else 5)):=rfl;clear hR;generalize T.Xk ⟨6,p,n,q,nm,ss⟩ ⟨s0,s1,s2,s3⟩=wv at *
 generalize T.Y9 p n=k at *
 generalize s2.length=sln at *
 go_enter Tryz.func123,Tryz.ntmps123;go_wp2_with (go_at_call 51;refine (CS.o _ (((YJ _ _).alloc (Zw _) _).alloc Zi _)).mono ?_;rintro e w1 ⟨rfl,YY⟩;obtain ⟨L_,Kb⟩:=SY YY;have QJ:=YY.size)
 all_goals (go_ret;refine ⟨YW ?_,(((YJ _ _).alloc (Zw _) _).alloc Zi _).trans (YY.mono Ug)⟩)
 all_goals (rw [HW.o];first|(simp [*];done)|(simp_all;done)|(simp_all;omega)|skip)
theorem FH (b:Nat) (T:ZN) (o:Op) (s:Wl) (sa ba ca:Option Addr) (sl sc bl bc cc:Nat) (w:World) (hR:ZL w b T) (hk:o.kind=7∨o.kind=10∨o.kind=11∨o.kind=12) (hn:T.Y9 o.peer o.source<0) :
  Calls Tryz.prog 123 (Jb (some ⟨b,0,none⟩) (Jo o sa sl sc ba bl bc) (Qq s.num s.own ca s.ss.length cc s.ZE)) w fun e w'=>e = .returned (.int .i64 (T.Xk o s))∧Below w w w':=by
 have CS:=Zh (fun (w1:World) (h:Below w w w1)=>Wv b T o.peer o.source w1 (hR.below h));have HW:Hid (T.Xk o s=8):=by show _=_;unfold ZN.Xk;rw [Z4 Zo,Z4 Zo,ZR hn]
 obtain ⟨kd,p,n,q,nm,ss⟩:=o;obtain ⟨s0,s1,s2,s3⟩:=s;dsimp only at *
 clear hR;generalize T.Xk ⟨kd,p,n,q,nm,ss⟩ ⟨s0,s1,s2,s3⟩=wv at *
 generalize T.Y9 p n=k at *
 generalize s2.length=sln at *
 rcases hk with rfl|rfl|rfl|rfl
 all_goals
  go_enter Tryz.func123,Tryz.ntmps123;go_wp2_with (go_at_call 51;refine (CS.o _ (((YJ _ _).alloc (Zw _) _).alloc Zi _)).mono ?_;rintro e w1 ⟨rfl,YY⟩;obtain ⟨L_,Kb⟩:=SY YY;have QJ:=YY.size)
  all_goals (go_ret;exact ⟨YW HW.o.symm,(((YJ _ _).alloc (Zw _) _).alloc Zi _).trans (YY.mono Ug)⟩)
end Go.Proofs.Rm
namespace Go.Proofs.Rm
open Go.RowKit Go.Proofs.Heap Go.Proofs.Mem
theorem Ni {l:List Va} {k:Nat} (h:k<l.length):l.getD k pG=l[k]:=by
 rw [SC,Vb h];rfl
theorem Hr (b:Nat) (T:ZN) (o:Op) (s:Wl) (sa ba ca:Option Addr) (sl sc bl bc cc:Nat) (w:World) (hR:ZL w b T) (hk:o.kind=7∨o.kind=10∨o.kind=11∨o.kind=12) (hn:0≤T.Y9 o.peer o.source) :
  Calls Tryz.prog 123 (Jb (some ⟨b,0,none⟩) (Jo o sa sl sc ba bl bc) (Qq s.num s.own ca s.ss.length cc s.ZE)) w fun e w'=>e = .returned (.int .i64 (T.Xk o s))∧Below w w w':=by
 obtain ⟨k,VK,R5,_,_⟩:=XI hn;have R5:T.Y9 o.peer o.source=k:=R5;have CS:=Zh (fun (w1:World) (h:Below w w w1)=>Wv b T o.peer o.source w1 (hR.below h));have HR:=Zh hR
 have HW:Hid (T.Xk o s=(if o.kind=10∧T.Z0[k].ZQ=true then 9 else if o.kind=11∧T.Z0[k].ZQ=false then 11 else if o.kind=12∧PW s o.ZH=false then 5 else if o.kind=12∧T.Z0[k].want=o.ZH then 9 else 0)):=by
  show _=_;unfold ZN.Xk ZN.OD;rw [Z4 Zo,Z4 Zo,Z4 Zo,R5,Wz,Ni VK]
 rw [R5] at CS;obtain ⟨kd,p,n,q,nm,ss⟩:=o;obtain ⟨s0,s1,s2,s3⟩:=s;dsimp only at *
 unfold PW at HW;dsimp only at HW;clear hR R5 hn;generalize T.Xk ⟨kd,p,n,q,nm,ss⟩ ⟨s0,s1,s2,s3⟩=wv at *
 generalize s2.length=sln at *
 rcases hk with rfl|rfl|rfl|rfl
 all_goals
  go_enter Tryz.func123,Tryz.ntmps123;go_wp2_with fail
  refine (CS.o _ (((YJ _ _).alloc (Zw _) _).alloc Zi _)).mono ?_;rintro e w1 ⟨rfl,YY⟩;obtain ⟨L_,Kb⟩:=SY YY;have QJ:=YY.size;obtain ⟨pv,sv,uv,Yn,XJ⟩:=((HR.o.below (((YJ _ _).alloc (Zw _) _).alloc Zi _)).below YY).Vw;have m1:=XJ.Z0.len;have c2:=cell_of Yn 2;have ZY:=XJ.Z0;obtain ⟨pa,pc,rfl,_⟩:=id ZY;obtain ⟨g,off,e1,hc⟩:=OE ZY Zo;subst e1;obtain ⟨d0,d1,d2,d3⟩:=hc k T.Z0[k] (Vb VK);have V6:=Zh YY;clear hc Yn XJ ZY YY;generalize T.Z0[k].want=wt at *
  generalize T.Z0[k].ZQ=ps at *
  go_wp2_with fail
 all_goals try (go_quiet (fail);go_wp2)
 all_goals (go_ret;refine ⟨YW ?_,?_⟩)
 all_goals try (first|exact (((YJ _ _).alloc (Zw _) _).alloc Zi _).trans (V6.o.mono Ug)|exact below_drewN ((((YJ _ _).alloc (Zw _) _).alloc Zi _).trans (V6.o.mono Ug)) _)
 all_goals (rw [HW.o];first|(simp [*];done)|(simp_all;done)|(simp_all;omega)|skip)
def ZN.ZM (p:Int) (T:ZN):Nat→List YB × ZN
 | 0=>([],T)
 | k+1=>let x:=ZN.ZM p T k;if 0≤x.2.Y9 p ((k:Int)+1) then (x.1++[⟨2,p,(k:Int)+1,0,0⟩],x.2.WN p ((k:Int)+1)) else x
def ZN.ZI (p:Int) (T:ZN):Nat→List YB × ZN
 | 0=>([],T)
 | k+1=>let x:=ZN.ZI p T k;if x.2.owner ((k:Int)+1)=p then (x.1++(x.2.Yo ((k:Int)+1)).1,(x.2.Yo ((k:Int)+1)).2) else x
def ZN.leave (T:ZN) (p:Int):List YB × ZN:=
 ((ZN.ZM p T 8).1++(ZN.ZI p (ZN.ZM p T 8).2 8).1,(ZN.ZI p (ZN.ZM p T 8).2 8).2.OA p)
def ZN.ZJ (T:ZN) (n:Int) (on:Bool):ZN:={T with Yg:=T.Yg.set (T.YU n).toNat {T.Wb n with ZE:=on} }
def ZN.Y0 (T:ZN) (n:Int) (on:Bool) (p:Nat):List YB:=
 if on then [⟨6,p,n,0,0⟩] else ⟨7,p,n,0,0⟩ :: (if (T.OD p n).ZQ then [] else [T.ask (T.OD p n)])
def ZN.mute (T:ZN) (n:Int) (on:Bool):List YB × ZN:=(((T.ZJ n on).Zv n).flatMap ((T.ZJ n on).Y0 n on),T.ZJ n on)
def ZN.ZP (T:ZN) (p n:Int) (x:Va):ZN:={T with Z0:=T.Z0.set (T.Y9 p n).toNat x}
def ZN.changed (T:ZN) (o:Op) (kind:Int):Va:=
 if kind=4 then {T.OD o.peer o.source with ZQ:=true} else if kind=5 then {T.OD o.peer o.source with ZQ:=false} else {T.OD o.peer o.source with want:=o.ZH}
def ZN.change (T:ZN) (o:Op) (kind:Int):List YB × ZN:=
 let x:=T.changed o kind
 let T1:=T.ZP o.peer o.source x
 (⟨kind,o.peer,o.source,if kind=8 then o.ZH else 0,0⟩ :: (if x.ZQ || (T1.Wb o.source).ZE then [] else [T1.ask x]),T1)
def ZN.MQ (T:ZN) (x:Vc):ZN:={T with ZA:=T.ZA++[x]}
def ZN.J3 (T:ZN) (x:Wl):ZN:={T with Yg:=T.Yg++[x]}
def ZN.Ve (T:ZN) (x:Va):ZN:={T with Z0:=T.Z0++[x]}
def ZN.subscribe (T:ZN) (o:Op):List YB × ZN:=
 let x:Va:=⟨o.peer,o.source,o.ZH,false⟩
 (⟨1,o.peer,o.source,o.ZH,0⟩ :: (if ((T.Ve x).Wb o.source).ZE then [⟨6,o.peer,o.source,0,0⟩] else [(T.Ve x).ask x]),T.Ve x)
def ZN.turns (T:ZN) (o:Op):List YB × ZN:=
 if o.kind=2 then ([],T.MQ ⟨o.peer,o.name⟩)
 else if o.kind=3 then T.leave o.peer
 else if o.kind=4 then ([],T.J3 ⟨o.source,o.peer,o.ZK,false⟩)
 else if o.kind=5 then T.Yo o.source
 else if o.kind=6 then T.subscribe o
 else if o.kind=7 then ([⟨2,o.peer,o.source,0,0⟩],T.WN o.peer o.source)
 else if o.kind=8 then T.mute o.source true
 else if o.kind=9 then T.mute o.source false
 else if o.kind=10 then T.change o 4
 else if o.kind=11 then T.change o 5
 else T.change o 8
def ZN.Wm (T:ZN) (o:Op):(List YB × ZN) × Int:=if T.X4 o≠0 then (([],T),T.X4 o) else (T.turns o,0)
def ZN.YS (T:ZN) (p x:Int):(List YB × ZN) × Int:=
 if !(T.of x).2.2 || decide (T.XF p<0) || decide (T.owner (T.of x).1≠p) then (([],T),8) else (T.Yo (T.of x).1,0)
def small:Nat:=100000
structure ZN.Small (T:ZN):Prop where
 ZA:T.ZA.length≤small
 Yg:T.Yg.length≤small
 Z0:T.Z0.length≤small
theorem ZL.FO {w:World} {b:Nat} {T:ZN} (h:ZL w b T) {e:TypeId} (he:e≠91):∀ k c fr,k=b→w.heap[k]?≠some (.cells c e fr):=by
 obtain ⟨_,_,_,hc,_⟩:=h.Vw;intro k c fr hk;subst hk;rw [hc];exact Uo (fun h=>he h.symm)
theorem ZL.Yz {w:World} {b:Nat} {T:ZN} (h:ZL w b T) (j:Nat):w.frozen? ⟨b,j,none⟩=false:=by
 obtain ⟨_,_,_,hc,_⟩:=h.Vw;simp [World.frozen?,hc]
theorem ZL.AW {w:World} {b:Nat} {T:ZN} (h:ZL w b T) {v:Value} {l:List Vc} (hr:Row w 103 v l.length (l.flatMap Yx)):ZL (w.setCell ⟨b,0,none⟩ v) b {T with ZA:=l}:=by
 have t1:=h.FO (e:=103) Zd;have t2:=h.FO (e:=108) Zd;have t3:=h.FO (e:=105) Zd;have t4:=h.FO (e:=66) Zd;obtain ⟨pv,sv,uv,hc,ha,⟨ms,YY,Y7,VJ⟩,R4⟩:=h.Vw;have hf:Fr w (· = b) w (w.setCell ⟨b,0,none⟩ v):=(Fr.refl _ _ _).setAt _ _;refine ⟨v,sv,uv,by simp [World.setCell,Array.getElem?_modify,hc],?_⟩;exact ⟨hr.fr hf (Zw _) t1,⟨ms,YY,Y7.fr hf (Zw _) t2,fun m hm=>(VJ m hm).fr hf (Zw _) t4⟩,R4.fr hf (Zw _) t3⟩
theorem ZL.Ij {w:World} {b:Nat} {T:ZN} (h:ZL w b T) {v:Value} (ms:List (Wl × Value)) {l:List Wl} (hl:ms.map Prod.fst=l) (hr:Row w 108 v ms.length (ms.flatMap Zq)) (Uc:∀ m∈ms,Row w 66 m.2 m.1.ss.length (YO m.1.ss)) :
  ZL (w.setCell ⟨b,1,none⟩ v) b {T with Yg:=l}:=by
 have t1:=h.FO (e:=103) Zd;have t2:=h.FO (e:=108) Zd;have t3:=h.FO (e:=105) Zd;have t4:=h.FO (e:=66) Zd;obtain ⟨pv,sv,uv,hc,ha,_,R4⟩:=h.Vw;have hf:Fr w (· = b) w (w.setCell ⟨b,1,none⟩ v):=(Fr.refl _ _ _).setAt _ _;refine ⟨pv,v,uv,by simp [World.setCell,Array.getElem?_modify,hc],?_⟩;exact ⟨ha.fr hf (Zw _) t1,⟨ms,hl,hr.fr hf (Zw _) t2,fun m hm=>(Uc m hm).fr hf (Zw _) t4⟩,R4.fr hf (Zw _) t3⟩
theorem ZL.Lu {w:World} {b:Nat} {T:ZN} (h:ZL w b T) {v:Value} {l:List Va} (hr:Row w 105 v l.length (l.flatMap Zt)):ZL (w.setCell ⟨b,2,none⟩ v) b {T with Z0:=l}:=by
 have t1:=h.FO (e:=103) Zd;have t2:=h.FO (e:=108) Zd;have t3:=h.FO (e:=105) Zd;have t4:=h.FO (e:=66) Zd;obtain ⟨pv,sv,uv,hc,ha,⟨ms,YY,Y7,VJ⟩,R4⟩:=h.Vw;have hf:Fr w (· = b) w (w.setCell ⟨b,2,none⟩ v):=(Fr.refl _ _ _).setAt _ _;refine ⟨pv,sv,v,by simp [World.setCell,Array.getElem?_modify,hc],?_⟩;exact ⟨ha.fr hf (Zw _) t1,⟨ms,YY,Y7.fr hf (Zw _) t2,fun m hm=>(VJ m hm).fr hf (Zw _) t4⟩,hr.fr hf (Zw _) t3⟩
end Go.Proofs.Rm
namespace Go.Proofs.Rm
open Go.RowKit Go.Proofs.Heap Go.Proofs.Mem
theorem Tw (l:List Va):∀ u∈l.flatMap Zt,u.oneCell'=true:=by
 intro u hu;obtain ⟨x,_,hx⟩:=List.mem_flatMap.1 hu;exact LC x u hx
theorem Tv (l:List Va):(l.flatMap Zt).length=l.length*4:=XG Zt 4 (fun _=>rfl) l
theorem J8 {α:Type} (f:α→List Value) (k:Nat) (hk:∀ x,(f x).length=k) (l:List α) (n:Nat):(l.flatMap f).take (n*k)=(l.take n).flatMap f:=by
 by_cases h:n≤l.length
 ·conv=>lhs;rw [←List.take_append_drop n l,OQ]
  rw [List.take_append_of_le_length iY,FL iY]
 ·rw [FL (by rw [XG f k hk];exact Nat.mul_le_mul_right k Zo),FL Zo]
theorem J7 {α:Type} (f:α→List Value) (k:Nat) (hk:∀ x,(f x).length=k) (l:List α) (n:Nat):(l.flatMap f).drop (n*k)=(l.drop n).flatMap f:=by
 by_cases h:n≤l.length
 ·conv=>lhs;rw [←List.take_append_drop n l,OQ]
  rw [List.drop_append_of_le_length iY,List.drop_of_length_le iY,J2]
 ·rw [List.drop_of_length_le (by rw [XG f k hk];exact Nat.mul_le_mul_right k Zo),List.drop_of_length_le Zo];rfl
theorem TW {w w3:World} {cs:Array Value} {e:TypeId} (h:Below (w.heap.size+1) (w.alloc (.cells cs e)) w3) (j:Nat):w3.cell? ⟨w,j,none⟩=cs[j]?∧w3.frozen? ⟨w,j,none⟩=false:=by
 have hb:=h.block w.heap.size Zo;rw [Z8] at hb;exact ⟨by simp only [World.cell?,hb];rfl,by simp [World.frozen?,hb]⟩
def S_ (w:World) (g:Nat):Prop:=∃ c f,w.heap[g]?=some (.cells c 158 f)
theorem S_.set {w:World} {g:Nat} (h:S_ w g) (a:Addr) (u:Value):S_ (w.setCell a u) g:=by
 obtain ⟨c,f,h⟩:=h;unfold S_;by_cases e:a.block=g
 ·subst e;simp [World.setCell,Array.getElem?_modify,h]
 ·refine ⟨c,f,?_⟩;simp [World.setCell,Array.getElem?_modify,e,h]
theorem S_.drew {w:World} {g:Nat} (h:S_ w g):S_ w.drew g:=h
theorem S_.Z7 {w w3:World} {cs:Array Value} (h:Below (w.heap.size+1) (w.alloc (.cells cs 158)) w3):S_ w3 w.heap.size:=by
 have hb:=h.block w.heap.size Zo;rw [Z8] at hb;exact ⟨_,_,hb⟩
theorem ZL.Lv {w:World} {b:Nat} {T:ZN} (h:ZL w b T) {g:Nat} (hg:S_ w g) (j:Nat) (u:Value):ZL (w.setCell ⟨g,j,none⟩ u) b T:=by
 obtain ⟨c,f,hg⟩:=hg;have hf:Fr w (· = g) w (w.setCell ⟨g,j,none⟩ u):=(Fr.refl _ _ _).setAt _ _
 have H':∀ e,158≠e→∀ k c fr,k=g→w.heap[k]?≠some (.cells c e fr):=by
  intro e he k c fr hk;subst hk;rw [hg];exact Uo he
 have hb:=h.lt;obtain ⟨pv,sv,uv,hc,ht⟩:=h.Vw;exact ⟨pv,sv,uv,by rw [hf.block b hb (fun e=>H' _ Zd b _ _ e hc)];exact hc,ht.fr hf (Zw _) (H' _ Zd) (H' _ Zd) (H' _ Zd) (H' _ Zd)⟩
theorem ZL.drew {w:World} {b:Nat} {T:ZN} (h:ZL w b T):ZL w.drew b T:=h.below (YJ _ _).drew
theorem ZL.alloc {w:World} {b:Nat} {T:ZN} (h:ZL w b T) (o:Obj):ZL (w.alloc o) b T:=h.below (Z' _ _)
theorem LY (b:Nat) (T:ZN) (p n:Int) (w:World) (hR:ZL w b T) (hs:T.Small) (hh:0≤T.Y9 p n) :
  Calls Tryz.prog 100 (Qu (some ⟨b,0,none⟩) p n) w fun e w'=>e = .returned (V4 ⟨2,p,n,0,0⟩)∧ZL w' b (T.WN p n)∧Fr w (· = b) w w':=by
 obtain ⟨k,hk,R5,-,-⟩:=XI hh;have R5:T.Y9 p n=k:=R5;have CS:=Zh (fun (w1:World) (h:Below w w w1)=>Wv b T p n w1 (hR.below h));rw [R5] at CS;have hb:=hR.lt;have HR:=Zh hR;have HE:Hid (T.WN p n={T with Z0:=T.Z0.take k++T.Z0.drop (k+1)}):=by show _=_;unfold ZN.WN;rw [R5,Wz,List.eraseIdx_eq_take_drop_succ]
 have Vl:=hs.Z0;unfold small at Vl;obtain ⟨pv,sv,uv,Yn,XJ⟩:=hR.Vw;have ZY:=XJ.Z0;have hlen:=ZY.len;obtain ⟨a,cap,rfl,O9,wq,-,-⟩:=id ZY;obtain ⟨a1,run1,AK,_⟩:=Sp Uh a T.Z0.length cap k Zo;obtain ⟨a2,pV,AL,_⟩:=SP Uh a T.Z0.length cap (k+1) Zo O9;rw [show (((k+1:Nat):Int))=(k:Int)+1 by omega] at pV
 have y_:Hid (∀ w',Below w w w'→Row w' 105 (.slice a1 k cap) k ((T.Z0.take k).flatMap Zt)):=fun w' h=>by
  have:=AK w' _ Zo (Tv _) (ZY.below h)
  rwa [J8 Zt 4 (fun _=>rfl)] at this
 have DG:Hid (∀ w',Below w w w'→Row w' 105 (.slice a2 (T.Z0.length-(k+1)) (cap-(k+1))) (T.Z0.length-(k+1)) ((T.Z0.drop (k+1)).flatMap Zt)):=fun w' h=>by
  have:=AL w' _ (Tv _) (ZY.below h)
  rwa [J7 Zt 4 (fun _=>rfl)] at this
 have FX:Hid (((T.Z0.take k).flatMap Zt).length=k*4):=by show _=_;rw [Tv,S4,Nat.min_eq_left Zo]
 have ud:Hid (((T.Z0.drop (k+1)).flatMap Zt).length=(T.Z0.length-(k+1))*4):=by show _=_;rw [Tv,Rg]
 have HL3:Hid ((T.Z0.take k++T.Z0.drop (k+1)).length=k+(T.Z0.length-(k+1))):=by show _=_;rw [UE,S4,Rg,Nat.min_eq_left Zo]
 have HC:Hid (∀ w',Below w w w'→w'.cell? ⟨b,2,none⟩=some (.slice a T.Z0.length cap)):=fun w' h=>(h.cell (p:=⟨b,2,none⟩) hb).trans (cell_of Yn 2)
 have wF:k+1≤T.Z0.length:=hk;clear hR XJ Yn ZY AK AL R5 hh hs;generalize T.Z0.length=N at *
 have Kb:=HR.o.Yz 2;have HFZ:Hid (∀ w',Below w w w'→w'.frozen? ⟨b,2,none⟩=false):=fun w' h=>(h.frozen (p:=⟨b,2,none⟩) hb).trans Kb
 clear Kb;go_enter Tryz.func100,Tryz.ntmps100;go_wp2_with fail
 have eP:Hid (∀ w',Below (w.heap.size+1) (w.alloc (.cells (Qh 0 0 0 0 0) 158)) w'→Below w w w'):=fun w' h=>(Z' w _).trans (h.mono Zo)
 refine (CS.o _ (Z' _ _)).mono ?_;rintro e w1 ⟨rfl,YY⟩;have W8:Below (w.heap.size+1) (w.alloc (.cells (Qh 0 0 0 0 0) 158)) w1:=by have:=YY;rwa [World.size_alloc] at this
 have RX:=W8.size;rw [World.size_alloc] at RX;have lG:IntKind.i64.wrap ((k:Int)+1)=(k:Int)+1:=Tm _ Zo;have Bg:=HC.o _ (eP.o _ W8);clear YY;go_wp2_with fail
 go_region_law (first|(refine Zp Zr (.const (.slice none 0 0)) (.tmp 18) 49 Zr (w.heap.size+1) Uh (.slice none 0 0) 0 [] Zr (TY _ _ _ _) (.slice a1 k cap) k ((T.Z0.take k).flatMap Zt) Zr ?_ FX.o (Tw _) Zo Zo ?_ ?_;(exact y_.o _ (eP.o _ zo));(exact PO (Nat.le_of_eq (World.size_alloc w _).symm) (Below.size zo));intro v1 w2 Bw OH;have Yq:Below (w.heap.size+1) (w.alloc (.cells (Qh 0 0 0 0 0) 158)) w2:=Below.grown zo OH.o (PO (Nat.le_of_eq (World.size_alloc w _).symm) (Below.size zo)) (YL (TY w1 _ 105 4));have c2:=HC.o _ (eP.o _ Yq))|(refine Zp Zr (.tmp 19) (.tmp 26) 49 Zr (w.heap.size+1) Uh v1 (0+k) ([]++(T.Z0.take k).flatMap Zt) Zr ?_ (.slice a2 (N-(k+1)) (cap-(k+1))) (N-(k+1)) ((T.Z0.drop (k+1)).flatMap Zt) Zr ?_ ud.o (Tw _) Zo Zo ?_ ?_;(first|exact Bw.o|exact Xd Bw.o);(exact DG.o _ (eP.o _ zo));(exact PO (Nat.le_of_eq (World.size_alloc w _).symm) (Below.size zo));intro v2 w3 NH KF;have Wn:Below (w.heap.size+1) (w.alloc (.cells (Qh 0 0 0 0 0) 158)) w3:=Below.grown zo KF.o (PO (Nat.le_of_eq (World.size_alloc w _).symm) (Below.size zo)) (YL Bw.o);have c3:=HC.o _ (eP.o _ Wn);have f3:=HFZ.o _ (eP.o _ Wn);obtain ⟨va,vc,hv⟩:=WE NH.o;subst hv))
 all_goals
  have d0:w3.cell? ⟨w,0,none⟩=some (.int .i64 0):=(TW Wn 0).1;have d1:w3.cell? ⟨w,1,none⟩=some (.int .i64 0):=(TW Wn 1).1;have d2:w3.cell? ⟨w,2,none⟩=some (.int .i64 0):=(TW Wn 2).1;have d3:w3.cell? ⟨w,3,none⟩=some (.int .i64 0):=(TW Wn 3).1;have d4:w3.cell? ⟨w,4,none⟩=some (.int .u32 0):=(TW Wn 4).1;have z0:=(TW Wn 0).2;have z1:=(TW Wn 1).2;have z2:=(TW Wn 2).2;have z3:=(TW Wn 3).2;have z4:=(TW Wn 4).2;have WK:¬b=w.heap.size:=by omega
  have hne2:¬w.heap.size=b:=by omega
  go_wp2;have ZY:=Row.Z6 NH.o;rw [J2,←OQ,QD] at ZY;have Fh:ZL w3 b T:=HR.o.below (eP.o _ Wn);have Np:k+(N-(k+1))=(T.Z0.take k++T.Z0.drop (k+1)).length:=by rw [HL3.o]
  rw [Np] at ZY;have z_:=Fh.Lu ZY;rw [←Np] at z_;refine VD (v:=V4 ⟨2,p,n,0,0⟩) (by simp [results,Tryz.results100,go_sem,V4,d0,d1,d2,d3,d4]) rfl ⟨rfl,?_,?_⟩
  ·rw [HE.o];have ht:=(S_.Z7 Wn);exact ((((z_.Lv (ht.set _ _) 0 _).Lv ((ht.set _ _).set _ _) 1 _).Lv (((ht.set _ _).set _ _).set _ _) 2 _).Lv ((((ht.set _ _).set _ _).set _ _).set _ _) 3 _).Lv (((((ht.set _ _).set _ _).set _ _).set _ _).set _ _) 4 _
  ·exact (((((((Fr.Z7 _ (eP.o _ Wn)).setAt _ _).setCell (Ws (Zw _)) _).setCell (Ws (Zw _)) _).setCell (Ws (Zw _)) _).setCell (Ws (Zw _)) _).setCell (Ws (Zw _)) _)
end Go.Proofs.Rm
