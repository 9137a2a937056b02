/- Part of a proof. -/
import Derived.Test.YtpdjhlcbcomdkaaGreatDoorF16
set_option linter.unusedVariables false
set_option linter.unusedSimpArgs false
set_option maxRecDepth 100000
set_option maxHeartbeats 16000000
open Go Go.Q Go.Qr
namespace Go.Proofs.Rm
open Go.RowKit Go.Proofs.Heap Go.Proofs.Mem
theorem P7 {w:World} {base:Nat} {e:TypeId} {size:Nat} {v:Value} {n:Nat} {xs:List Value} (h:w.ownsRow base e size v n xs) (hn:0<n):∃ g cap cur,v = .slice (some ⟨g,0,none⟩) n cap∧base≤g∧w.heap[g]?=some (.cells cur e):=by
 obtain ⟨_,h⟩:=h
 rcases h with ⟨_,h⟩|⟨g,cap,cur,hv,hg,hh,h1,h2,h3,h4⟩
 ·omega
 ·exact ⟨g,cap,cur,hv,hg,hh⟩
theorem Pq (T:ZU) (n:Int) (on:Bool):∀ l:List Nat,(l.flatMap (T.Y_ n on)).length≤2*l.length
 | []=>ZB _
 | p :: l=>by
  rw [List.flatMap_cons,SP,List.length_cons]
  have h1:=Pq T n on l
  have h2:(T.Y_ n on p).length≤2:=by unfold ZU.Y_;split;simp;split <;> simp
  omega
theorem set4 {w:World} {b:Nat} {u0 u1 u2 u3 v0 v1 v2 v3:Value} (h0:w.cell? ⟨b,0,none⟩=some u0) (h1:w.cell? ⟨b,1,none⟩=some u1) (h2:w.cell? ⟨b,2,none⟩=some u2) (h3:w.cell? ⟨b,3,none⟩=some u3) :
  ((((w.setCell ⟨b,0,none⟩ v0).setCell ⟨b,1,none⟩ v1).setCell ⟨b,2,none⟩ v2).setCell ⟨b,3,none⟩ v3).cell? ⟨b,0,none⟩=some v0∧((((w.setCell ⟨b,0,none⟩ v0).setCell ⟨b,1,none⟩ v1).setCell ⟨b,2,none⟩ v2).setCell ⟨b,3,none⟩ v3).cell? ⟨b,1,none⟩=some v1 ∧
  ((((w.setCell ⟨b,0,none⟩ v0).setCell ⟨b,1,none⟩ v1).setCell ⟨b,2,none⟩ v2).setCell ⟨b,3,none⟩ v3).cell? ⟨b,2,none⟩=some v2∧((((w.setCell ⟨b,0,none⟩ v0).setCell ⟨b,1,none⟩ v1).setCell ⟨b,2,none⟩ v2).setCell ⟨b,3,none⟩ v3).cell? ⟨b,3,none⟩=some v3:=by
 obtain ⟨k0,k1,k2⟩:=kg (v0:=v0) (v1:=v1) (v2:=v2) h0 h1 h2
 refine ⟨(World.cell?_setCell_other _ _ _ _ Zi).trans k0,(World.cell?_setCell_other _ _ _ _ Zi).trans k1,(World.cell?_setCell_other _ _ _ _ Zi).trans k2,um (u:=u3) _ _ _ ?_⟩
 rw [World.cell?_setCell_other _ _ _ _ Zi,World.cell?_setCell_other _ _ _ _ Zi,World.cell?_setCell_other _ _ _ _ Zi];exact h3
theorem j5 {base:Nat} {e:TypeId} {size:Nat} {v:Value} {n:Nat} {xs:List Value} {w:World} (h:w.ownsRow base e size v n xs):∀ k,v.ownBlock=some k→k<w.heap.size:=by
 intro k hk
 obtain ⟨_,h⟩:=h
 rcases h with ⟨rfl,_⟩|⟨g,cap,cur,rfl,hg,hh,_⟩
 ·cases hk
 ·have hk:some g=some k:=hk
  cases hk
  rcases Nat.lt_or_ge k w.heap.size with h|h
  ·exact h
  ·rw [Gt h] at hh;cases hh
theorem vr {w w':World} {row:Option Nat} (hg:w.grownBy w' row) {B g:Nat} (hr:∀ k,row=some k→k<B) (hB:B≤g) (Rj:g<w.heap.size) (j:Nat):w'.cell? ⟨g,j,none⟩=w.cell? ⟨g,j,none⟩:=
 World.cell?_of_block (w:=w) (hg.block g Rj (fun e=>by have:=hr g e.symm;omega))
theorem VK {w:World} {base:Nat} {e:TypeId} {size:Nat} {n:Nat} {xs:List Value} {g cap:Nat} (h:w.ownsRow base e size (.slice (some ⟨g,0,none⟩) n cap) n xs) (hn:0<n) {i:Nat} (u:Value):(w.setCell ⟨g,i,none⟩ u).ownsRow base e size (.slice (some ⟨g,0,none⟩) n cap) n (xs.set i u):=by
 exact br
theorem I0 (on:Bool):∀ (P:List (XK × Value)) (k:Nat) (hk:k<P.length),(P.flatMap ZJ).set (k*4+3) (.bool on)=(P.set k ({P[k].1 with ZE:=on},P[k].2)).flatMap ZJ
 | [],k,hk=>by simp at hk
 | x :: P,0,_=>by simp [ZJ]
 | x :: P,k+1,hk=>by
  have ih:=I0 on P k (by simpa using hk)
  rw [List.flatMap_cons,List.set_append_right _ _ (by show 4≤_;omega),List.set_cons_succ,List.flatMap_cons]
  have:(k+1)*4+3-(ZJ x).length=k*4+3:=by show _-4=_;omega
  rw [this,ih]
  rfl
theorem tJ (b:Nat) (T:ZU) (n:Int) (w:World) (hR:ZT w b T) (VV:T.Small) (hs:0≤T.Zq n) :
  Calls Tryz.prog 101 (Jd (some ⟨b,0,none⟩) n true) w fun e w'=>(∃ v,e = .returned v∧YM w' v (T.mute n true).1)∧ZT w' b (T.mute n true).2∧Fr w (· = b) w w':=by
 have hb:=hR.lt
 obtain ⟨m,hm,PU,-,-⟩:=Yh hs
 have PU:T.Zq n=m:=PU
 have CB:=Zh (fun (w1:World) (h:ZT w1 b T)=>W8 b T n w1 h)
 rw [PU] at CB
 have mQ:Hid (T.mute n true=(((T.ZN n true).ZH n).flatMap ((T.ZN n true).Y_ n true),T.ZN n true)):=rfl
 obtain ⟨pv,sv,uv,YJ,X_⟩:=hR.Wh
 obtain ⟨P,Vd,UR,MR⟩:=X_.Yv
 have My:m<P.length:=by rw [←Vd,UM] at hm;exact hm
 have U4:=VV.Yv
 unfold small at U4
 have hPl:P.length≤100000:=by rw [←Vd,UM] at U4;exact U4
 have sF:∀ x∈P,∃ a n c,x.2 = .slice a n c:=fun x hx=>by obtain ⟨a,c,h,-,-⟩:=MR x hx;exact ⟨a,_,c,h⟩
 have Dy:Hid (∀ u∈P.flatMap ZJ,u.oneCell'=true):=QE sF
 have Dx:=Zh (Tx P)
 have HMT:Hid (T.ZN n true={T with Yv:=(P.set m ({P[m].1 with ZE:=true},P[m].2)).map Prod.fst}):=by
  show _=_
  unfold ZU.ZN ZU.Xb
  rw [PU,Xf,List.map_set,Vd]
  congr 2
  rw [show T.Yv.getD m Vm=P[m].1 by rw [←Vd,VC My]]
 have Rq:=Zh UR
 have gq:=Zh MR
 have HR:=Zh hR
 have I6:=Zh Vd
 have M9:=Zh VV
 have ey:=Zh My
 have c1:=cell_of YJ 1
 have f1:=hR.YS 1
 obtain ⟨a,cap,rfl,PV,xH,-,-⟩:=id UR
 clear hR VV hs PU YJ X_ UR MR Vd U4 sF hm
 go_enter Tryz.func101,Tryz.ntmps101
 go_wp2_with (at_builtin;refine Za rfl (.const (.slice none 0 0)) (.tmp 15) 48 rfl w.heap.size VY (.slice none 0 0) 0 [] rfl (Us _ _ _ _) (.slice a P.length cap) P.length (P.flatMap ZJ) rfl Rq.o Dx.o Dy.o Zo Zo (ZB _) (fun v1 w2 uK HG=>?_);have HQ:Hid (w2.ownsRow w 108 4 v1 P.length (P.flatMap ZJ)):=qL;clear uK;have YF:Below w w w2:=(YG _ _).grown HG.o (ZB _) (fun k hk=>by cases hk);have c2:=(YF.cell (p:=⟨b,1,none⟩) hb).trans c1;have f2:=(YF.frozen (p:=⟨b,1,none⟩) hb).trans f1;obtain ⟨g,cp,cur,hv,Br,Jt⟩:=P7 HQ.o Zo;subst hv)
 have Sn:=Zh ((HR.o.below YF).JD P I6.o (Row.ZV HQ.o) (fun x hx=>(gq.o x hx).below YF))
 have LO:g≠b:=by omega
 have UK:=Zh (Yj HQ.o ((Fr.refl w2.heap.size (· = b) w2).setAt 1 (.slice (some ⟨g,0,none⟩) P.length cp)) (fun k hk=>by omega))
 have JI:Hid (Fr w (· = b) w (w2.setCell ⟨b,1,none⟩ (.slice (some ⟨g,0,none⟩) P.length cp))):=(Fr.Z9 _ YF).setAt _ _
 have fo:(m:Int)<(P.length:Int):=Gs.2 My
 have vE:(0:Int)≤(m:Int):=yF m
 have k1:(w2.setCell ⟨b,1,none⟩ (.slice (some ⟨g,0,none⟩) P.length cp)).cell? ⟨b,1,none⟩=some (.slice (some ⟨g,0,none⟩) P.length cp):=um _ _ _ c2
 have oG:g<w2.heap.size:=by
  exact qM
 generalize rQ:w2.setCell ⟨b,1,none⟩ (.slice (some ⟨g,0,none⟩) P.length cp)=W1 at *
 have TJ:W1.heap.size=w2.heap.size:=by rw [←rQ,size_setCell]
 have AY:=Zh rQ
 have xL:W1.frozen? ⟨g,m*4+3,none⟩=false:=by
  have h:W1.heap[g]?=some (.cells cur 108):=by rw [←rQ];simp [World.setCell,Array.getElem?_modify,LO.symm,Jt]
  simp [World.frozen?,h]
 have yS:W1.heap[g]?=some (.cells cur 108):=by rw [←rQ];simp [World.setCell,Array.getElem?_modify,LO.symm,Jt]
 have xH:W1.cell? ⟨g,m*4+3,none⟩=some (.bool P[m].1.ZE):=by
  obtain ⟨g',off',e,hc⟩:=U3 (Row.ZV UK.o) Zo
  cases e
  have:=(hc m P[m] (VQ My)).2.2.2
  rwa [OD] at this
 have OH:Hid (∀ w',Below W1 W1 w'→w'.cell? ⟨b,1,none⟩=some (.slice (some ⟨g,0,none⟩) P.length cp)∧w'.cell? ⟨g,m*4+3,none⟩=some (.bool P[m].1.ZE)∧w'.frozen? ⟨g,m*4+3,none⟩=false):=fun w' h=>
  ⟨(h.cell (p:=⟨b,1,none⟩) (by dsimp only;rw [TJ];exact Px hb YF.size)).trans k1,(h.cell (p:=⟨g,m*4+3,none⟩) UL).trans xH,(h.frozen (p:=⟨g,m*4+3,none⟩) UL).trans xL⟩
 have jK:w.heap.size≤W1.heap.size:=by have:=YF.size;omega
 have Hc:Hid (∀ w',Below W1 W1 w'→ZT (w'.setCell ⟨g,m*4+3,none⟩ (.bool true)) b (T.ZN n true)∧Fr w (· = b) w (w'.setCell ⟨g,m*4+3,none⟩ (.bool true))):=fun w' h=>by
  have hr:=Sn.o.below h
  have hq:=ZF UK.o h
  have hf:Fr w' (· = g) w' (w'.setCell ⟨g,m*4+3,none⟩ (.bool true)):=(Fr.refl _ _ _).setAt _ _
  have uq:w'.heap[g]?=some (.cells cur 108):=by
   rw [h.block g Zo];exact yS
  have Jv:∀ e,108≠e→∀ k c fr,k=g→w'.heap[k]?≠some (.cells c e fr):=by
   intro e he k c fr hk
   subst hk
   rw [uq]
   exact VX he
  have Ia:=hr.lt
  have vI:=VK hq Zo (i:=m*4+3) (.bool true)
  rw [I0 true P m My] at vI
  have jA:=Row.ZV vI
  obtain ⟨pv',QB,Kz,MP,Bw,⟨L4,sw,Nk,AA⟩,mo⟩:=hr.Wh
  have sD:QB = .slice (some ⟨g,0,none⟩) P.length cp:=by
   have h1:=cell_of MP 1
   rw [(OH.o w' h).1] at h1
   simpa using h1.symm
  subst sD
  refine ⟨⟨pv',.slice (some ⟨g,0,none⟩) P.length cp,Kz,by rw [hf.block b Ia (fun e=>LO e.symm)];exact MP,?_⟩,(JI.o.trans ((Fr.Z9 (· = b) h).mono jK (fun _ _ h=>h))).setCell (Wc Br) _⟩
  rw [HMT.o]
  refine ⟨Bw.fr hf (ZB _) (Jv _ Zd),⟨P.set m ({P[m].1 with ZE:=true},P[m].2),rfl,by rw [List.length_set];exact jA,?_⟩,mo.fr hf (ZB _) (Jv _ Zd)⟩
  intro x hx
  have sk:∀ x∈P,Row (w'.setCell ⟨g,m*4+3,none⟩ (.bool true)) 66 x.2 x.1.ss.length (Zb x.1.ss):=fun x hx=>((((gq.o x hx).below YF).fr ((Fr.refl w2.heap.size (· = b) w2).setAt 1 (.slice (some ⟨g,0,none⟩) P.length cp)) (ZB _) ((HR.o.below YF).G' Zd)).fr (Fr.Z9 Lm (by rw [AY.o];exact h)) (by rw [AY.o];exact ZB _) (fun _ _ _ h=>h.elim)).fr hf (ZB _) (Jv _ Zd)
  rcases List.mem_or_eq_of_mem_set hx with hx|rfl
  ·exact sk x hx
  ·exact sk P[m] (Pw My)
 have gA:Hid (T.ZN n true).Small:=⟨M9.o.ZK,by unfold ZU.ZN;dsimp only;rw [List.length_set];exact M9.o.Yv,M9.o.Z8⟩
 have pT:Hid (∀ w1,Below W1 W1 w1→Calls Tryz.prog 49 (Ql (some ⟨b,0,none⟩) n) w1 fun e w'=>e = .returned (.int .i64 m)∧Below w1 w1 w'):=fun w1 h=>CB.o w1 (by have:=Sn.o.below h;exact this)
 have Ri:Below W1 W1 W1:=YG _ _
 clear rQ Jt xL HMT c1 f1 c2 f2
 have HLLEN:((T.ZN n true).ZH n).length≤8:=U8 _ n 8
 have JZ:Hid (∀ k,k<((T.ZN n true).ZH n).length→(((T.ZN n true).ZH n).take (k+1)).flatMap ((T.ZN n true).Y_ n true)=(((T.ZN n true).ZH n).take k).flatMap ((T.ZN n true).Y_ n true)++(T.ZN n true).Y_ n true (((T.ZN n true).ZH n).getD k 0)):=fun k h=>NK _ h
 have qh:Hid (∀ k,k<((T.ZN n true).ZH n).length→0≤(T.ZN n true).Zx (((T.ZN n true).ZH n).getD k 0:Nat) n):=fun k h=>(NQ.1 (LG h)).2.2
 have p_:Hid (∀ k,((((T.ZN n true).ZH n).take k).flatMap ((T.ZN n true).Y_ n true)).length≤16):=fun k=>by
  have h1:=Pq (T.ZN n true) n true (((T.ZN n true).ZH n).take k)
  rw [TU] at h1;omega
 have HFP:Hid (∀ (p:Nat) (q:Nat) (hq:q<(T.ZN n true).Z8.length),(T.ZN n true).Zx (p:Int) n=q→(T.ZN n true).Y_ n true p=[⟨6,p,n,0,0⟩]):=fun p q hq e=>rfl
 have N9:=trivial
 generalize T.ZN n true=T1 at *
 go_upto_region 2 with fail
 go_cut [] (fun wx=>ZT wx b T1∧Fr w (· = b) w wx)
 case first=>
  go_region_with ((go_at_call 49;(with_reducible refine (pT.o _ E4).mono ?_);rintro e V2 ⟨rfl,OE⟩;have rX:Below W1 W1 V2:=Heap.Below.call E4 (ZB _) OE;obtain ⟨v1,v2,v3⟩:=OH.o _ rX))
  all_goals
   obtain ⟨Oi,Ib⟩:=Hc.o _ rX
   generalize V2.setCell ⟨g,m*4+3,none⟩ (.bool true)=W3 at *
   go_wp2_with fail
   go_meet
   exact ⟨Oi,Ib⟩
 case rest=>
  obtain ⟨Oi,Ib⟩:=hcut
  obtain ⟨W3,rfl⟩:∃ W3:World,W3=wc:=⟨_,rfl⟩
  have AX:=Zh Oi
  have qc:=Zh Ib
  have sG:=Ib.size
  have CH:=Zh (NA b T1 n W3 Oi)
  clear Oi Ib
  generalize T1.ZH n=L at *
  generalize T1.Y_ n true=f at *
  go_wp2_with fail
  (with_reducible refine CH.o.mono ?_)
  rintro e w1 ⟨⟨lv,rfl,Z7⟩,Zj⟩
  have WS:=Zh Z7
  have KC:Hid (Fr w (· = b) w w1):=qc.o.trans ((Fr.Z9 _ Zj).mono sG (fun _ _ h=>h))
  have AV:=Zh (AX.o.below Zj)
  obtain ⟨la,MZ,rfl,-,-⟩:=id Z7
  clear Zj Z7 CH qc AX
  go_wp2_with fail
  go_loopw [7,33] (fun v i w'=>∃ k:Nat,k≤L.length∧i = .int .i64 k∧Fr w (· = b) w w'∧Row w' 3 (.slice la L.length MZ) L.length (ints L)∧ZT w' b T1∧w'.ownsRow w 158 5 v ((L.take k).flatMap f).length (((L.take k).flatMap f).flatMap Z_)) (fun _ i _=>L.length-(intOf i).toNat)
  case atStart=>exact ⟨0,Zo,rfl,KC.o,WS.o,AV.o,Us _ _ _ _⟩
  case round=>
   obtain ⟨k,hk,rfl,Xm,Z7,VE,YO⟩:=hrel
   clear KC AV WS
   have U5:=Zh Xm
   have WS:=Zh Z7
   have VW:=Zh VE
   have Yu:=Zh YO
   have Vr:=Xm.size
   clear Xm YO VE
   by_cases W_:k<L.length
   ·obtain ⟨gl,vU,bJ,e1,Fq,YX⟩:=U9 Z7 Zo
    cases e1
    have hc:=YX k W_
    have HS:=Zh (JZ.o k W_)
    have r9:=qh.o k W_
    have EW:=p_.o k
    obtain ⟨q,hq,Nj,JN,-⟩:=Yh r9
    have Nj:T1.Zx (L.getD k 0:Nat) n=q:=Nj
    have HP:=Zh (HFP.o (L.getD k 0) q hq Nj)
    have CA:=Zh (fun w1 (h:Below wr wr w1)=>Xg b T1 (L.getD k 0:Nat) n w1 (VW.o.below h))
    rw [Nj] at CA
    obtain ⟨pv,sv,uv,YJ,X_⟩:=VW.o.Wh
    have V8:=X_.Z8
    have cT:=V8.len
    have Mx:=cell_of YJ 2
    obtain ⟨ua,Mt,rfl,-,-⟩:=id V8
    obtain ⟨gu,TY,e2,xI⟩:=Td V8 Zo
    subst e2
    obtain ⟨d0,d1,d2,d3⟩:=xI q T1.Z8[q] (VQ hq)
    have oH:gu<wr.heap.size:=by
     rcases Nat.lt_or_ge gu wr.heap.size with h|h
     ·exact h
     ·simp [World.cell?,Gt h] at d0
    have Jw:T1.Z8[q].source=n:=by simp at JN;exact JN.2
    have htriv:=trivial
    have Ia:=VW.o.lt
    clear YX Z7 V8 X_ YJ xI Nj JN r9 HFP N9
    generalize T1.Z8[q]=x at *
    clear gA
    generalize T1.Z8.length=NU at *
    generalize L.getD k 0=p at *
    generalize (L.take k).flatMap f=G at *
    obtain ⟨x0,x1,x2,x3⟩:=x
    dsimp only at d0 d1 d2 d3 Jw HP
    subst Jw
    have ZC:Hid (∀ w',Below wr wr w'→w'.cell? ⟨b,2,none⟩=some (.slice (some ⟨gu,TY,none⟩) NU Mt)∧w'.cell? ⟨gu,TY+q*4,none⟩=some (.int .i64 x0)∧w'.cell? ⟨gu,TY+q*4+1,none⟩=some (.int .i64 x1)∧w'.cell? ⟨gu,TY+q*4+2,none⟩=some (.int .i64 x2)∧w'.cell? ⟨gu,TY+q*4+3,none⟩=some (.bool x3)∧Below wr wr w'):=fun w' h=>
     ⟨(h.cell (p:=⟨b,2,none⟩) Ia).trans Mx,(h.cell (p:=⟨gu,TY+q*4,none⟩) oH).trans d0,(h.cell (p:=⟨gu,TY+q*4+1,none⟩) oH).trans d1,(h.cell (p:=⟨gu,TY+q*4+2,none⟩) oH).trans d2,(h.cell (p:=⟨gu,TY+q*4+3,none⟩) oH).trans d3,h⟩
    have Ri:Below wr wr wr:=YG _ _
    go_upto_region 7 with fail
    go_cut [] (fun wx=>Below wr wr wx)
    case first=>
     go_region_held3 (fun w'=>w'.cell? ⟨b,2,none⟩=some (.slice (some ⟨gu,TY,none⟩) NU Mt)∧w'.cell? ⟨gu,TY+q*4,none⟩=some (.int .i64 x0)∧w'.cell? ⟨gu,TY+q*4+1,none⟩=some (.int .i64 x1)∧w'.cell? ⟨gu,TY+q*4+2,none⟩=some (.int .i64 x2)∧w'.cell? ⟨gu,TY+q*4+3,none⟩=some (.bool x3)∧Below wr wr w') (first|(exact ZC.o _ Xo)|(exact ZC.o _ (Below.drew Xo))|(exact ZC.o _ (Heap.Below.alloc' Xo (ZB _) _))|(exact ZC.o _ (Heap.Below.alloc' (Below.drew Xo) (ZB _) _))|(exact ZC.o _ (Below.setCell (Below.setCell (Below.setCell (Below.setCell Xo Zi _) Zi _) Zi _) Zi _))|(exact ZC.o _ (Below.setCell (Below.setCell (Below.setCell (Below.setCell (Below.drew Xo) Zi _) Zi _) Zi _) Zi _))|go_keep) (first|(go_at_call 51;go_split_ands;(with_reducible refine Calls.mono (CA.o _ Xo) ?_);rintro e w2 ⟨rfl,Y0⟩;have YF:=Heap.Below.call Xo (ZB _) Y0;obtain ⟨MQ,KP⟩:=TD Y0;have SG:=Y0.size)|fail)
     all_goals
      clear Ri
      obtain ⟨-,-,-,-,-,OP⟩:= ‹_∧_∧_∧_∧_∧Below wr wr _›
      (go_wp2_with fail;go_meet;exact OP)
    case rest=>
     clear Ri
     have OP:=hcut
     obtain ⟨W4,rfl⟩:∃ W4:World,W4=wc:=⟨_,rfl⟩
     have fS:=Zh OP
     have HO0:=Zh (ZF Yu.o OP)
     have Kg:=OP.size
     clear OP
     go_wp2_with (at_builtin;refine Za rfl (.tmp 48) (.tmp 52) 98 rfl w.heap.size XU _ G.length (G.flatMap Z_) rfl (HO0.o.alloc _) _ 1 ([⟨6,p,x1,0,0⟩].flatMap Z_) rfl (YL _ _ 1 _ ([⟨6,p,x1,0,0⟩].flatMap Z_) Zd Zi) rfl (Yk _) Zo Zo (Rh Vr (Rh Kg Zi)) (fun v' w3 HO HG=>?_))
     go_roundw
     case rel=>
      have XS:=fS.o.alloc fS.o.size (.cells ([⟨6,p,x1,0,0⟩].flatMap Z_).toArray 158)
      have SZ:=ZF Yu.o XS
      refine ⟨k+1,Zo,Zn,?_,?_,?_,?_⟩
      ·exact (U5.o.trans ((Fr.Z9 _ XS).mono Vr (fun _ _ h=>h))).grown HG.o (Rh Vr XS.size) (Yw Yu.o)
      ·exact Row.grown (WS.o.below XS) SZ HG.o Zd
      ·exact ZT.grown (VW.o.below XS) SZ HG.o hb
      ·rw [HS.o,HP.o,SP,QL]
       exact HO.o
     case measure=>simp [intOf];omega
   ·exact lj
theorem wE (b:Nat) (T:ZU) (n:Int) (w:World) (hR:ZT w b T) (VV:T.Small) (hs:0≤T.Zq n) (TW:∀ x∈(T.ZN n false).Z8,x.source=n→0≤(T.ZN n false).Zq n∧0≤x.want∧x.want<((T.ZN n false).Xb n).ss.length) :
  Calls Tryz.prog 101 (Jd (some ⟨b,0,none⟩) n false) w fun e w'=>(∃ v,e = .returned v∧YM w' v (T.mute n false).1)∧ZT w' b (T.mute n false).2∧Fr w (· = b) w w':=by
 have hb:=hR.lt
 obtain ⟨m,hm,PU,-,-⟩:=Yh hs
 have PU:T.Zq n=m:=PU
 have CB:=Zh (fun (w1:World) (h:ZT w1 b T)=>W8 b T n w1 h)
 rw [PU] at CB
 have mQ:Hid (T.mute n false=(((T.ZN n false).ZH n).flatMap ((T.ZN n false).Y_ n false),T.ZN n false)):=rfl
 obtain ⟨pv,sv,uv,YJ,X_⟩:=hR.Wh
 obtain ⟨P,Vd,UR,MR⟩:=X_.Yv
 have My:m<P.length:=by rw [←Vd,UM] at hm;exact hm
 have U4:=VV.Yv
 unfold small at U4
 have hPl:P.length≤100000:=by rw [←Vd,UM] at U4;exact U4
 have sF:∀ x∈P,∃ a n c,x.2 = .slice a n c:=fun x hx=>by obtain ⟨a,c,h,-,-⟩:=MR x hx;exact ⟨a,_,c,h⟩
 have Dy:Hid (∀ u∈P.flatMap ZJ,u.oneCell'=true):=QE sF
 have Dx:=Zh (Tx P)
 have HMT:Hid (T.ZN n false={T with Yv:=(P.set m ({P[m].1 with ZE:=false},P[m].2)).map Prod.fst}):=by
  show _=_
  unfold ZU.ZN ZU.Xb
  rw [PU,Xf,List.map_set,Vd]
  congr 2
  rw [show T.Yv.getD m Vm=P[m].1 by rw [←Vd,VC My]]
 have Rq:=Zh UR
 have gq:=Zh MR
 have HR:=Zh hR
 have I6:=Zh Vd
 have M9:=Zh VV
 have ey:=Zh My
 have c1:=cell_of YJ 1
 have f1:=hR.YS 1
 obtain ⟨a,cap,rfl,PV,xH,-,-⟩:=id UR
 clear hR VV hs PU YJ X_ UR MR Vd U4 sF hm
 go_enter Tryz.func101,Tryz.ntmps101
 go_wp2_with (at_builtin;refine Za rfl (.const (.slice none 0 0)) (.tmp 15) 48 rfl w.heap.size VY (.slice none 0 0) 0 [] rfl (Us _ _ _ _) (.slice a P.length cap) P.length (P.flatMap ZJ) rfl Rq.o Dx.o Dy.o Zo Zo (ZB _) (fun v1 w2 uK HG=>?_);have HQ:Hid (w2.ownsRow w 108 4 v1 P.length (P.flatMap ZJ)):=qL;clear uK;have YF:Below w w w2:=(YG _ _).grown HG.o (ZB _) (fun k hk=>by cases hk);have c2:=(YF.cell (p:=⟨b,1,none⟩) hb).trans c1;have f2:=(YF.frozen (p:=⟨b,1,none⟩) hb).trans f1;obtain ⟨g,cp,cur,hv,Br,Jt⟩:=P7 HQ.o Zo;subst hv)
 have Sn:=Zh ((HR.o.below YF).JD P I6.o (Row.ZV HQ.o) (fun x hx=>(gq.o x hx).below YF))
 have LO:g≠b:=by omega
 have UK:=Zh (Yj HQ.o ((Fr.refl w2.heap.size (· = b) w2).setAt 1 (.slice (some ⟨g,0,none⟩) P.length cp)) (fun k hk=>by omega))
 have JI:Hid (Fr w (· = b) w (w2.setCell ⟨b,1,none⟩ (.slice (some ⟨g,0,none⟩) P.length cp))):=(Fr.Z9 _ YF).setAt _ _
 have fo:(m:Int)<(P.length:Int):=Gs.2 My
 have vE:(0:Int)≤(m:Int):=yF m
 have k1:(w2.setCell ⟨b,1,none⟩ (.slice (some ⟨g,0,none⟩) P.length cp)).cell? ⟨b,1,none⟩=some (.slice (some ⟨g,0,none⟩) P.length cp):=um _ _ _ c2
 have oG:g<w2.heap.size:=by
  exact qM
 generalize rQ:w2.setCell ⟨b,1,none⟩ (.slice (some ⟨g,0,none⟩) P.length cp)=W1 at *
 have TJ:W1.heap.size=w2.heap.size:=by rw [←rQ,size_setCell]
 have AY:=Zh rQ
 have xL:W1.frozen? ⟨g,m*4+3,none⟩=false:=by
  have h:W1.heap[g]?=some (.cells cur 108):=by rw [←rQ];simp [World.setCell,Array.getElem?_modify,LO.symm,Jt]
  simp [World.frozen?,h]
 have yS:W1.heap[g]?=some (.cells cur 108):=by rw [←rQ];simp [World.setCell,Array.getElem?_modify,LO.symm,Jt]
 have xH:W1.cell? ⟨g,m*4+3,none⟩=some (.bool P[m].1.ZE):=by
  obtain ⟨g',off',e,hc⟩:=U3 (Row.ZV UK.o) Zo
  cases e
  have:=(hc m P[m] (VQ My)).2.2.2
  rwa [OD] at this
 have OH:Hid (∀ w',Below W1 W1 w'→w'.cell? ⟨b,1,none⟩=some (.slice (some ⟨g,0,none⟩) P.length cp)∧w'.cell? ⟨g,m*4+3,none⟩=some (.bool P[m].1.ZE)∧w'.frozen? ⟨g,m*4+3,none⟩=false):=fun w' h=>
  ⟨(h.cell (p:=⟨b,1,none⟩) (by dsimp only;rw [TJ];exact Px hb YF.size)).trans k1,(h.cell (p:=⟨g,m*4+3,none⟩) UL).trans xH,(h.frozen (p:=⟨g,m*4+3,none⟩) UL).trans xL⟩
 have jK:w.heap.size≤W1.heap.size:=by have:=YF.size;omega
 have Hc:Hid (∀ w',Below W1 W1 w'→ZT (w'.setCell ⟨g,m*4+3,none⟩ (.bool false)) b (T.ZN n false)∧Fr w (· = b) w (w'.setCell ⟨g,m*4+3,none⟩ (.bool false))):=fun w' h=>by
  have hr:=Sn.o.below h
  have hq:=ZF UK.o h
  have hf:Fr w' (· = g) w' (w'.setCell ⟨g,m*4+3,none⟩ (.bool false)):=(Fr.refl _ _ _).setAt _ _
  have uq:w'.heap[g]?=some (.cells cur 108):=by
   rw [h.block g Zo];exact yS
  have Jv:∀ e,108≠e→∀ k c fr,k=g→w'.heap[k]?≠some (.cells c e fr):=by
   intro e he k c fr hk
   subst hk
   rw [uq]
   exact VX he
  have Ia:=hr.lt
  have vI:=VK hq Zo (i:=m*4+3) (.bool false)
  rw [I0 false P m My] at vI
  have jA:=Row.ZV vI
  obtain ⟨pv',QB,Kz,MP,Bw,⟨L4,sw,Nk,AA⟩,mo⟩:=hr.Wh
  have sD:QB = .slice (some ⟨g,0,none⟩) P.length cp:=by
   have h1:=cell_of MP 1
   rw [(OH.o w' h).1] at h1
   simpa using h1.symm
  subst sD
  refine ⟨⟨pv',.slice (some ⟨g,0,none⟩) P.length cp,Kz,by rw [hf.block b Ia (fun e=>LO e.symm)];exact MP,?_⟩,(JI.o.trans ((Fr.Z9 (· = b) h).mono jK (fun _ _ h=>h))).setCell (Wc Br) _⟩
  rw [HMT.o]
  refine ⟨Bw.fr hf (ZB _) (Jv _ Zd),⟨P.set m ({P[m].1 with ZE:=false},P[m].2),rfl,by rw [List.length_set];exact jA,?_⟩,mo.fr hf (ZB _) (Jv _ Zd)⟩
  intro x hx
  have sk:∀ x∈P,Row (w'.setCell ⟨g,m*4+3,none⟩ (.bool false)) 66 x.2 x.1.ss.length (Zb x.1.ss):=fun x hx=>((((gq.o x hx).below YF).fr ((Fr.refl w2.heap.size (· = b) w2).setAt 1 (.slice (some ⟨g,0,none⟩) P.length cp)) (ZB _) ((HR.o.below YF).G' Zd)).fr (Fr.Z9 Lm (by rw [AY.o];exact h)) (by rw [AY.o];exact ZB _) (fun _ _ _ h=>h.elim)).fr hf (ZB _) (Jv _ Zd)
  rcases List.mem_or_eq_of_mem_set hx with hx|rfl
  ·exact sk x hx
  ·exact sk P[m] (Pw My)
 have gA:Hid (T.ZN n false).Small:=⟨M9.o.ZK,by unfold ZU.ZN;dsimp only;rw [List.length_set];exact M9.o.Yv,M9.o.Z8⟩
 have pT:Hid (∀ w1,Below W1 W1 w1→Calls Tryz.prog 49 (Ql (some ⟨b,0,none⟩) n) w1 fun e w'=>e = .returned (.int .i64 m)∧Below w1 w1 w'):=fun w1 h=>CB.o w1 (by have:=Sn.o.below h;exact this)
 have Ri:Below W1 W1 W1:=YG _ _
 clear rQ Jt xL HMT c1 f1 c2 f2
 have HLLEN:((T.ZN n false).ZH n).length≤8:=U8 _ n 8
 have JZ:Hid (∀ k,k<((T.ZN n false).ZH n).length→(((T.ZN n false).ZH n).take (k+1)).flatMap ((T.ZN n false).Y_ n false)=(((T.ZN n false).ZH n).take k).flatMap ((T.ZN n false).Y_ n false)++(T.ZN n false).Y_ n false (((T.ZN n false).ZH n).getD k 0)):=fun k h=>NK _ h
 have qh:Hid (∀ k,k<((T.ZN n false).ZH n).length→0≤(T.ZN n false).Zx (((T.ZN n false).ZH n).getD k 0:Nat) n):=fun k h=>(NQ.1 (LG h)).2.2
 have p_:Hid (∀ k,((((T.ZN n false).ZH n).take k).flatMap ((T.ZN n false).Y_ n false)).length≤16):=fun k=>by
  have h1:=Pq (T.ZN n false) n false (((T.ZN n false).ZH n).take k)
  rw [TU] at h1;omega
 have HFP:Hid (∀ (p:Nat) (q:Nat) (hq:q<(T.ZN n false).Z8.length),(T.ZN n false).Zx (p:Int) n=q→(T.ZN n false).Y_ n false p=⟨7,p,n,0,0⟩ :: (if (T.ZN n false).Z8[q].ZR then [] else [(T.ZN n false).ask (T.ZN n false).Z8[q]])):=fun p q hq e=>by
  unfold ZU.Y_ ZU.Sl
  rw [e,Xf,PJ hq]
  rfl
 have N9:Hid (∀ x∈(T.ZN n false).Z8,x.source=n→0≤(T.ZN n false).Zq n∧0≤x.want∧x.want<((T.ZN n false).Xb n).ss.length):=TW
 generalize T.ZN n false=T1 at *
 go_upto_region 2 with fail
 go_cut [] (fun wx=>ZT wx b T1∧Fr w (· = b) w wx)
 case first=>
  go_region_with ((go_at_call 49;(with_reducible refine (pT.o _ E4).mono ?_);rintro e V2 ⟨rfl,OE⟩;have rX:Below W1 W1 V2:=Heap.Below.call E4 (ZB _) OE;obtain ⟨v1,v2,v3⟩:=OH.o _ rX))
  all_goals
   obtain ⟨Oi,Ib⟩:=Hc.o _ rX
   generalize V2.setCell ⟨g,m*4+3,none⟩ (.bool false)=W3 at *
   go_wp2_with fail
   go_meet
   exact ⟨Oi,Ib⟩
 case rest=>
  obtain ⟨Oi,Ib⟩:=hcut
  obtain ⟨W3,rfl⟩:∃ W3:World,W3=wc:=⟨_,rfl⟩
  have AX:=Zh Oi
  have qc:=Zh Ib
  have sG:=Ib.size
  have CH:=Zh (NA b T1 n W3 Oi)
  clear Oi Ib
  generalize T1.ZH n=L at *
  generalize T1.Y_ n false=f at *
  go_wp2_with fail
  (with_reducible refine CH.o.mono ?_)
  rintro e w1 ⟨⟨lv,rfl,Z7⟩,Zj⟩
  have WS:=Zh Z7
  have KC:Hid (Fr w (· = b) w w1):=qc.o.trans ((Fr.Z9 _ Zj).mono sG (fun _ _ h=>h))
  have AV:=Zh (AX.o.below Zj)
  obtain ⟨la,MZ,rfl,-,-⟩:=id Z7
  clear Zj Z7 CH qc AX
  go_wp2_with fail
  go_loopw [7,33] (fun v i w'=>∃ k:Nat,k≤L.length∧i = .int .i64 k∧Fr w (· = b) w w'∧Row w' 3 (.slice la L.length MZ) L.length (ints L)∧ZT w' b T1∧w'.ownsRow w 158 5 v ((L.take k).flatMap f).length (((L.take k).flatMap f).flatMap Z_)) (fun _ i _=>L.length-(intOf i).toNat)
  case atStart=>exact ⟨0,Zo,rfl,KC.o,WS.o,AV.o,Us _ _ _ _⟩
  case round=>
   obtain ⟨k,hk,rfl,Xm,Z7,VE,YO⟩:=hrel
   clear KC AV WS
   have U5:=Zh Xm
   have WS:=Zh Z7
   have VW:=Zh VE
   have Yu:=Zh YO
   have Vr:=Xm.size
   clear Xm YO VE
   by_cases W_:k<L.length
   ·obtain ⟨gl,vU,bJ,e1,Fq,YX⟩:=U9 Z7 Zo
    cases e1
    have hc:=YX k W_
    have HS:=Zh (JZ.o k W_)
    have r9:=qh.o k W_
    have EW:=p_.o k
    obtain ⟨q,hq,Nj,JN,-⟩:=Yh r9
    have Nj:T1.Zx (L.getD k 0:Nat) n=q:=Nj
    have HP:=Zh (HFP.o (L.getD k 0) q hq Nj)
    have CA:=Zh (fun w1 (h:Below wr wr w1)=>Xg b T1 (L.getD k 0:Nat) n w1 (VW.o.below h))
    rw [Nj] at CA
    obtain ⟨pv,sv,uv,YJ,X_⟩:=VW.o.Wh
    have V8:=X_.Z8
    have cT:=V8.len
    have Mx:=cell_of YJ 2
    obtain ⟨ua,Mt,rfl,-,-⟩:=id V8
    obtain ⟨gu,TY,e2,xI⟩:=Td V8 Zo
    subst e2
    obtain ⟨d0,d1,d2,d3⟩:=xI q T1.Z8[q] (VQ hq)
    have oH:gu<wr.heap.size:=by
     rcases Nat.lt_or_ge gu wr.heap.size with h|h
     ·exact h
     ·simp [World.cell?,Gt h] at d0
    have Jw:T1.Z8[q].source=n:=by simp at JN;exact JN.2
    have Gj:=Zh (fun w1 (h:ZT w1 b T1)=>by
     have hh:=N9.o T1.Z8[q] (Pw hq) Jw
     have h1:=Jq b T1 T1.Z8[q] w1 h (by rw [Jw];exact hh.1) (by rw [Jw];exact hh.2)
     unfold WG at h1
     exact h1)
    generalize T1.ask T1.Z8[q]=TA at *
    have Ia:=VW.o.lt
    clear YX Z7 V8 X_ YJ xI Nj JN r9 HFP N9
    generalize T1.Z8[q]=x at *
    clear gA
    generalize T1.Z8.length=NU at *
    generalize L.getD k 0=p at *
    generalize (L.take k).flatMap f=G at *
    obtain ⟨x0,x1,x2,x3⟩:=x
    dsimp only at d0 d1 d2 d3 Jw HP Gj
    subst Jw
    have ZC:Hid (∀ w',Below wr wr w'→w'.cell? ⟨b,2,none⟩=some (.slice (some ⟨gu,TY,none⟩) NU Mt)∧w'.cell? ⟨gu,TY+q*4,none⟩=some (.int .i64 x0)∧w'.cell? ⟨gu,TY+q*4+1,none⟩=some (.int .i64 x1)∧w'.cell? ⟨gu,TY+q*4+2,none⟩=some (.int .i64 x2)∧w'.cell? ⟨gu,TY+q*4+3,none⟩=some (.bool x3)∧Below wr wr w'):=fun w' h=>
     ⟨(h.cell (p:=⟨b,2,none⟩) Ia).trans Mx,(h.cell (p:=⟨gu,TY+q*4,none⟩) oH).trans d0,(h.cell (p:=⟨gu,TY+q*4+1,none⟩) oH).trans d1,(h.cell (p:=⟨gu,TY+q*4+2,none⟩) oH).trans d2,(h.cell (p:=⟨gu,TY+q*4+3,none⟩) oH).trans d3,h⟩
    have Ri:Below wr wr wr:=YG _ _
    go_upto_region 7 with fail
    go_cut [10] (fun s10 wx=>∃ g5:Nat,s10 = .pointer (some ⟨g5,0,none⟩)∧(wx.cell? ⟨g5,0,none⟩=some (.int .i64 x0)∧wx.cell? ⟨g5,1,none⟩=some (.int .i64 x1)∧wx.cell? ⟨g5,2,none⟩=some (.int .i64 x2)∧wx.cell? ⟨g5,3,none⟩=some (.bool x3))∧wr.heap.size≤g5∧g5<wx.heap.size∧Below wr wr wx)
    case first=>
     go_region_held3 (fun w'=>w'.cell? ⟨b,2,none⟩=some (.slice (some ⟨gu,TY,none⟩) NU Mt)∧w'.cell? ⟨gu,TY+q*4,none⟩=some (.int .i64 x0)∧w'.cell? ⟨gu,TY+q*4+1,none⟩=some (.int .i64 x1)∧w'.cell? ⟨gu,TY+q*4+2,none⟩=some (.int .i64 x2)∧w'.cell? ⟨gu,TY+q*4+3,none⟩=some (.bool x3)∧Below wr wr w') (first|(exact ZC.o _ Xo)|(exact ZC.o _ (Below.drew Xo))|(exact ZC.o _ (Heap.Below.alloc' Xo (ZB _) _))|(exact ZC.o _ (Heap.Below.alloc' (Below.drew Xo) (ZB _) _))|(exact ZC.o _ (Below.setCell (Below.setCell (Below.setCell (Below.setCell Xo Zi _) Zi _) Zi _) Zi _))|(exact ZC.o _ (Below.setCell (Below.setCell (Below.setCell (Below.setCell (Below.drew Xo) Zi _) Zi _) Zi _) Zi _))|go_keep) (first|(go_at_call 51;go_split_ands;(with_reducible refine Calls.mono (CA.o _ Xo) ?_);rintro e w2 ⟨rfl,Y0⟩;have YF:=Heap.Below.call Xo (ZB _) Y0;obtain ⟨MQ,KP⟩:=TD Y0;have SG:=Y0.size)|fail)
     all_goals
      clear Ri
      obtain ⟨-,-,-,-,-,OP⟩:= ‹_∧_∧_∧_∧_∧Below wr wr _›
      (go_wp2_with fail;go_meet;first|exact ⟨_,rfl,⟨cell_of (Z5 w2 _) 0,cell_of (Z5 w2 _) 1,cell_of (Z5 w2 _) 2,cell_of (Z5 w2 _) 3⟩,YF.size,by simp,OP⟩|exact ⟨_,rfl,set4 ((MQ _ _ Zi).trans (cell_of (Z5 _ _) 0)) ((MQ _ _ Zi).trans (cell_of (Z5 _ _) 1)) ((MQ _ _ Zi).trans (cell_of (Z5 _ _) 2)) ((MQ _ _ Zi).trans (cell_of (Z5 _ _) 3)),ZB _,by simp at SG;simp;omega,OP⟩)
    case rest=>
     clear Ri
     obtain ⟨g5,rfl,⟨e0,e1,e2,e3⟩,ji,hg5b,OP⟩:=hcut
     obtain ⟨W4,rfl⟩:∃ W4:World,W4=wc:=⟨_,rfl⟩
     have fS:=Zh OP
     have HO0:=Zh (ZF Yu.o OP)
     have Kg:=OP.size
     clear OP
     have JG:=Zh (fS.o.alloc fS.o.size (.cells ([⟨7,p,x1,0,0⟩].flatMap Z_).toArray 158))
     have ub:=Zh (fun (w3:World) (hg:(W4.alloc (.cells ([⟨7,p,x1,0,0⟩].flatMap Z_).toArray 158)).grownBy w3 _) (j:Nat)=>(vr hg (j5 Yu.o) ji VB j).trans ((Z' W4 _).cell (p:=⟨g5,j,none⟩) hg5b))
     have HRG:=Zh (fun (w3:World) (hg:(W4.alloc (.cells ([⟨7,p,x1,0,0⟩].flatMap Z_).toArray 158)).grownBy w3 _)=>ZT.grown (VW.o.below JG.o) (ZF Yu.o JG.o) hg hb)
     cases x3
     ·go_wp2_with (first|(at_builtin;refine Za rfl (.tmp 54) (.tmp 58) 98 rfl w.heap.size XU _ G.length (G.flatMap Z_) rfl (HO0.o.alloc _) _ 1 ([⟨7,p,x1,0,0⟩].flatMap Z_) rfl (YL _ _ 1 _ ([⟨7,p,x1,0,0⟩].flatMap Z_) Zd Zi) rfl (Yk _) Zo Zo (Rh Vr (Rh Kg Zi)) (fun v' w3 HO HG=>?_);have GJ:=HRG.o w3 HG.o;have e0':=(ub.o w3 HG.o 0).trans e0;have e1':=(ub.o w3 HG.o 1).trans e1;have e2':=(ub.o w3 HG.o 2).trans e2;have e3':=(ub.o w3 HG.o 3).trans e3;have fD:=HG.o.size)|(go_at_call 99;(with_reducible refine (Gj.o _ GJ).mono ?_);rintro e w5 ⟨rfl,LM⟩;have QI:=Zh LM;have Ki:=LM.size;clear LM)|(at_builtin;refine Za rfl (.tmp 63) (.tmp 67) 98 rfl w.heap.size XU _ (G++[YE.mk 7 p x1 0 0]).length ((G++[YE.mk 7 p x1 0 0]).flatMap Z_) rfl ?b1 _ 1 ([TA].flatMap Z_) rfl ?b2 rfl (Yk _) ?b5 ?b6 ?b7 (fun v' w6 EX yr=>?_)))
      case b1=>rw [SP,QL];exact (ZF HO.o QI.o).alloc _
      case b2=>exact YL _ _ 1 _ ([TA].flatMap Z_) Zd rfl
      case b5=>rw [SP];simp;omega
      case b6=>rw [SP];simp;omega
      case b7=>simp at fD;simp;omega
      go_roundw
      case rel=>
       simp at fD
       have ot:=QI.o.alloc QI.o.size (.cells ([TA].flatMap Z_).toArray 158)
       have mb:=(ZF HO.o ot)
       have g0:=U5.o.trans ((Fr.Z9 (· = b) JG.o).mono Vr (fun _ _ h=>h))
       have g1:=g0.grown HG.o VB (Yw Yu.o)
       have g2:=g1.trans ((Fr.Z9 (· = b) ot).mono Zo (fun _ _ h=>h))
       refine ⟨k+1,Zo,Zn,?_,?_,?_,?_⟩
       ·exact g2.grown yr.o VB (Yw HO.o)
       ·exact Row.grown ((Row.grown (WS.o.below JG.o) (ZF Yu.o JG.o) HG.o Zd).below ot) mb yr.o Zd
       ·exact ZT.grown ((HRG.o w3 HG.o).below ot) mb yr.o hb
       ·rw [HS.o,HP.o,SP,QL]
        have h6:=EX.o
        rw [QL,SP] at h6
        simpa using h6
      case measure=>simp [intOf];omega
     ·go_wp2_with (at_builtin;refine Za rfl (.tmp 54) (.tmp 58) 98 rfl w.heap.size XU _ G.length (G.flatMap Z_) rfl (HO0.o.alloc _) _ 1 ([⟨7,p,x1,0,0⟩].flatMap Z_) rfl (YL _ _ 1 _ ([⟨7,p,x1,0,0⟩].flatMap Z_) Zd Zi) rfl (Yk _) Zo Zo (Rh Vr (Rh Kg Zi)) (fun v' w3 HO HG=>?_);have e3':=(ub.o w3 HG.o 3).trans e3)
      go_roundw
      case rel=>
       have SZ:=ZF Yu.o JG.o
       refine ⟨k+1,Zo,Zn,?_,?_,?_,?_⟩
       ·exact (U5.o.trans ((Fr.Z9 _ JG.o).mono Vr (fun _ _ h=>h))).grown HG.o (Rh Vr JG.o.size) (Yw Yu.o)
       ·exact Row.grown (WS.o.below JG.o) SZ HG.o Zd
       ·exact HRG.o w3 HG.o
       ·rw [HS.o,HP.o,SP,QL]
        exact HO.o
      case measure=>simp [intOf];omega
   ·exact lj
end Go.Proofs.Rm
