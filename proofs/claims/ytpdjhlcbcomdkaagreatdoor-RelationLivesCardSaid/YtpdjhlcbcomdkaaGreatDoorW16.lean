/- Part of a proof. -/
import Derived.Test.YtpdjhlcbcomdkaaGreatDoorW14
set_option linter.unusedVariables false
set_option linter.unusedSimpArgs false
set_option maxRecDepth 100000
set_option maxHeartbeats 16000000
open Go Go.Q Go.Qr
namespace Go.Proofs.Rm
open Go.RowKit Go.Proofs.Heap Go.Proofs.Mem
theorem PC {w:World} {base:Nat} {e:TypeId} {size:Nat} {v:Value} {n:Nat} {xs:List Value} (h:w.ownsRow base e size v n xs) (hn:0<n):∃ g cap cur,v = .slice (some ⟨g,0,none⟩) n cap∧base≤g∧w.heap[g]?=some (.cells cur e):=by
 obtain ⟨_,h⟩:=h
 rcases h with ⟨_,h⟩|⟨g,cap,cur,hv,hg,hh,h1,h2,h3,h4⟩
 ·omega
 ·exact ⟨g,cap,cur,hv,hg,hh⟩
theorem OX (T:ZN) (n:Int) (on:Bool):∀ l:List Nat,(l.flatMap (T.Y5 n on)).length≤2*l.length
 | []=>Zw _
 | p :: l=>by
  rw [List.flatMap_cons,UM,List.length_cons]
  have h1:=OX T n on l
  have h2:(T.Y5 n on p).length≤2:=by unfold ZN.Y5;split;simp;split <;> simp
  omega
theorem set4 {w:World} {b:Nat} {u0 u1 u2 u3 v0 v1 v2 v3:Value} (h0:w.cell? ⟨b,0,none⟩=some u0) (h1:w.cell? ⟨b,1,none⟩=some u1) (h2:w.cell? ⟨b,2,none⟩=some u2) (h3:w.cell? ⟨b,3,none⟩=some u3) :
  ((((w.setCell ⟨b,0,none⟩ v0).setCell ⟨b,1,none⟩ v1).setCell ⟨b,2,none⟩ v2).setCell ⟨b,3,none⟩ v3).cell? ⟨b,0,none⟩=some v0∧((((w.setCell ⟨b,0,none⟩ v0).setCell ⟨b,1,none⟩ v1).setCell ⟨b,2,none⟩ v2).setCell ⟨b,3,none⟩ v3).cell? ⟨b,1,none⟩=some v1 ∧
  ((((w.setCell ⟨b,0,none⟩ v0).setCell ⟨b,1,none⟩ v1).setCell ⟨b,2,none⟩ v2).setCell ⟨b,3,none⟩ v3).cell? ⟨b,2,none⟩=some v2∧((((w.setCell ⟨b,0,none⟩ v0).setCell ⟨b,1,none⟩ v1).setCell ⟨b,2,none⟩ v2).setCell ⟨b,3,none⟩ v3).cell? ⟨b,3,none⟩=some v3:=by
 obtain ⟨k0,k1,k2⟩:=set3 (v0:=v0) (v1:=v1) (v2:=v2) h0 h1 h2
 refine ⟨(World.cell?_setCell_other _ _ _ _ Zi).trans k0,(World.cell?_setCell_other _ _ _ _ Zi).trans k1,(World.cell?_setCell_other _ _ _ _ Zi).trans k2,rp (u:=u3) _ _ _ ?_⟩
 rw [World.cell?_setCell_other _ _ _ _ Zi,World.cell?_setCell_other _ _ _ _ Zi,World.cell?_setCell_other _ _ _ _ Zi];exact h3
theorem fx {base:Nat} {e:TypeId} {size:Nat} {v:Value} {n:Nat} {xs:List Value} {w:World} (h:w.ownsRow base e size v n xs):∀ k,v.ownBlock=some k→k<w.heap.size:=by
 intro k hk
 obtain ⟨_,h⟩:=h
 rcases h with ⟨rfl,_⟩|⟨g,cap,cur,rfl,hg,hh,_⟩
 ·cases hk
 ·have hk:some g=some k:=hk
  cases hk
  rcases Nat.lt_or_ge k w.heap.size with h|h
  ·exact h
  ·rw [Fm h] at hh;cases hh
theorem sO {w w':World} {row:Option Nat} (hg:w.grownBy w' row) {B g:Nat} (hr:∀ k,row=some k→k<B) (hB:B≤g) (Po:g<w.heap.size) (j:Nat):w'.cell? ⟨g,j,none⟩=w.cell? ⟨g,j,none⟩:=
 World.cell?_of_block (w:=w) (hg.block g Po (fun e=>by have:=hr g e.symm;omega))
theorem Vf {w:World} {base:Nat} {e:TypeId} {size:Nat} {n:Nat} {xs:List Value} {g cap:Nat} (h:w.ownsRow base e size (.slice (some ⟨g,0,none⟩) n cap) n xs) (hn:0<n) {i:Nat} (u:Value):(w.setCell ⟨g,i,none⟩ u).ownsRow base e size (.slice (some ⟨g,0,none⟩) n cap) n (xs.set i u):=by
 exact Yx92
theorem H9 (on:Bool):∀ (P:List (Wl × Value)) (k:Nat) (hk:k<P.length),(P.flatMap Zt).set (k*4+3) (.bool on)=(P.set k ({P[k].1 with ZG:=on},P[k].2)).flatMap Zt
 | [],k,hk=>by simp at hk
 | x :: P,0,_=>by simp [Zt]
 | x :: P,k+1,hk=>by
  have ih:=H9 on P k (by simpa using hk)
  rw [List.flatMap_cons,List.set_append_right _ _ (by show 4≤_;omega),List.set_cons_succ,List.flatMap_cons]
  have:(k+1)*4+3-(Zt x).length=k*4+3:=by show _-4=_;omega
  rw [this,ih]
  rfl
theorem qD (b:Nat) (T:ZN) (n:Int) (w:World) (hR:ZL w b T) (Vq:T.Small) (hs:0≤T.YU n) :
  Calls Tryz.prog 101 (Jg (some ⟨b,0,none⟩) n true) w fun e w'=>(∃ v,e = .returned v∧YG w' v (T.mute n true).1)∧ZL w' b (T.mute n true).2∧Fr w (· = b) w w':=by
 have hb:=hR.lt
 obtain ⟨m,hm,Pp,-,-⟩:=XL hs
 have Pp:T.YU n=m:=Pp
 have CB:=Zh (fun (w1:World) (h:ZL w1 b T)=>V6 b T n w1 h)
 rw [Pp] at CB
 have qX:Hid (T.mute n true=(((T.ZJ n true).Zx n).flatMap ((T.ZJ n true).Y5 n true),T.ZJ n true)):=rfl
 obtain ⟨pv,sv,uv,Yp,XM⟩:=hR.VC
 obtain ⟨P,TF,Sp,T4⟩:=XM.Yk
 have KO:m<P.length:=by rw [←TF,Tx] at hm;exact hm
 have Uz:=Vq.Yk
 unfold small at Uz
 have hPl:P.length≤100000:=by rw [←TF,Tx] at Uz;exact Uz
 have pL:∀ x∈P,∃ a n c,x.2 = .slice a n c:=fun x hx=>by obtain ⟨a,c,h,-,-⟩:=T4 x hx;exact ⟨a,_,c,h⟩
 have BQ:Hid (∀ u∈P.flatMap Zt,u.oneCell'=true):=PM pL
 have BP:=Zh (SZ P)
 have HMT:Hid (T.ZJ n true={T with Yk:=(P.set m ({P[m].1 with ZG:=true},P[m].2)).map Prod.fst}):=by
  show _=_
  unfold ZN.ZJ ZN.Wc
  rw [Pp,Wv,List.map_set,TF]
  congr 2
  rw [show T.Yk.getD m UO=P[m].1 by rw [←TF,Ut KO]]
 have QX:=Zh Sp
 have BW:=Zh T4
 have HR:=Zh hR
 have jr:=Zh TF
 have MF:=Zh Vq
 have qW:=Zh KO
 have c1:=cell_of Yp 1
 have f1:=hR.YC 1
 obtain ⟨a,cap,rfl,Pq,wR,-,-⟩:=id Sp
 clear hR Vq hs Pp Yp XM Sp T4 TF Uz pL hm
 go_enter Tryz.func101,Tryz.ntmps101
 go_wp2_with (at_builtin;refine YV rfl (.const (.slice none 0 0)) (.tmp 15) 48 rfl w.heap.size U2 (.slice none 0 0) 0 [] rfl (Ua _ _ _ _) (.slice a P.length cap) P.length (P.flatMap Zt) rfl QX.o BP.o BQ.o Zo Zo (Zw _) (fun v1 w2 rQ HG=>?_);have HQ:Hid (w2.ownsRow w 108 4 v1 P.length (P.flatMap Zt)):=nM;clear rQ;have Yt:Below w w w2:=(YH _ _).grown HG.o (Zw _) (fun k hk=>by cases hk);have c2:=(Yt.cell (p:=⟨b,1,none⟩) hb).trans c1;have f2:=(Yt.frozen (p:=⟨b,1,none⟩) hb).trans f1;obtain ⟨g,cp,cur,hv,wW,JM⟩:=PC HQ.o Zo;subst hv)
 have RU:=Zh ((HR.o.below Yt).IB P jr.o (Row.Z6 HQ.o) (fun x hx=>(BW.o x hx).below Yt))
 have Lp:g≠b:=by omega
 have Ui:=Zh (WJ HQ.o ((Fr.refl w2.heap.size (· = b) w2).setAt 1 (.slice (some ⟨g,0,none⟩) P.length cp)) (fun k hk=>by omega))
 have IH:Hid (Fr w (· = b) w (w2.setCell ⟨b,1,none⟩ (.slice (some ⟨g,0,none⟩) P.length cp))):=(Fr.Z8 _ Yt).setAt _ _
 have iH:(m:Int)<(P.length:Int):=Ou.2 KO
 have td:(0:Int)≤(m:Int):=rq m
 have k1:(w2.setCell ⟨b,1,none⟩ (.slice (some ⟨g,0,none⟩) P.length cp)).cell? ⟨b,1,none⟩=some (.slice (some ⟨g,0,none⟩) P.length cp):=rp _ _ _ c2
 have kU:g<w2.heap.size:=by
  exact Yt9
 generalize oV:w2.setCell ⟨b,1,none⟩ (.slice (some ⟨g,0,none⟩) P.length cp)=W1 at *
 have QV:W1.heap.size=w2.heap.size:=by rw [←oV,size_setCell]
 have zF:=Zh oV
 have vd:W1.frozen? ⟨g,m*4+3,none⟩=false:=by
  have h:W1.heap[g]?=some (.cells cur 108):=by rw [←oV];simp [World.setCell,Array.getElem?_modify,Lp.symm,JM]
  simp [World.frozen?,h]
 have wV:W1.heap[g]?=some (.cells cur 108):=by rw [←oV];simp [World.setCell,Array.getElem?_modify,Lp.symm,JM]
 have wR:W1.cell? ⟨g,m*4+3,none⟩=some (.bool P[m].1.ZG):=by
  obtain ⟨g',off',e,hc⟩:=SF (Row.Z6 Ui.o) Zo
  cases e
  have:=(hc m P[m] (U7 KO)).2.2.2
  rwa [QP] at this
 have Vp:Hid (∀ w',Below W1 W1 w'→w'.cell? ⟨b,1,none⟩=some (.slice (some ⟨g,0,none⟩) P.length cp)∧w'.cell? ⟨g,m*4+3,none⟩=some (.bool P[m].1.ZG)∧w'.frozen? ⟨g,m*4+3,none⟩=false):=fun w' h=>
  ⟨(h.cell (p:=⟨b,1,none⟩) (by dsimp only;rw [QV];exact Pb hb Yt.size)).trans k1,(h.cell (p:=⟨g,m*4+3,none⟩) Uj).trans wR,(h.frozen (p:=⟨g,m*4+3,none⟩) Uj).trans vd⟩
 have eN:w.heap.size≤W1.heap.size:=by have:=Yt.size;omega
 have Ga:Hid (∀ w',Below W1 W1 w'→ZL (w'.setCell ⟨g,m*4+3,none⟩ (.bool true)) b (T.ZJ n true)∧Fr w (· = b) w (w'.setCell ⟨g,m*4+3,none⟩ (.bool true))):=fun w' h=>by
  have hr:=RU.o.below h
  have hq:=Zy Ui.o h
  have hf:Fr w' (· = g) w' (w'.setCell ⟨g,m*4+3,none⟩ (.bool true)):=(Fr.refl _ _ _).setAt _ _
  have rA:w'.heap[g]?=some (.cells cur 108):=by
   rw [h.block g Zo];exact wV
  have Ip:∀ e,108≠e→∀ k c fr,k=g→w'.heap[k]?≠some (.cells c e fr):=by
   intro e he k c fr hk
   subst hk
   rw [rA]
   exact Ux he
  have GS:=hr.lt
  have tB:=Vf hq Zo (i:=m*4+3) (.bool true)
  rw [H9 true P m KO] at tB
  have eD:=Row.Z6 tB
  obtain ⟨pv',BF,mB,Ll,tq,⟨ms',iT,Im,yY⟩,hu'⟩:=hr.VC
  have pK:BF = .slice (some ⟨g,0,none⟩) P.length cp:=by
   have h1:=cell_of Ll 1
   rw [(Vp.o w' h).1] at h1
   simpa using h1.symm
  subst pK
  refine ⟨⟨pv',.slice (some ⟨g,0,none⟩) P.length cp,mB,by rw [hf.block b GS (fun e=>Lp e.symm)];exact Ll,?_⟩,(IH.o.trans ((Fr.Z8 (· = b) h).mono eN (fun _ _ h=>h))).setCell (Ww wW) _⟩
  rw [HMT.o]
  refine ⟨tq.fr hf (Zw _) (Ip _ Zd),⟨P.set m ({P[m].1 with ZG:=true},P[m].2),rfl,by rw [List.length_set];exact eD,?_⟩,hu'.fr hf (Zw _) (Ip _ Zd)⟩
  intro x hx
  have pE:∀ x∈P,Row (w'.setCell ⟨g,m*4+3,none⟩ (.bool true)) 66 x.2 x.1.ss.length (YO x.1.ss):=fun x hx=>((((BW.o x hx).below Yt).fr ((Fr.refl w2.heap.size (· = b) w2).setAt 1 (.slice (some ⟨g,0,none⟩) P.length cp)) (Zw _) ((HR.o.below Yt).F8 Zd)).fr (Fr.Z8 P_ (by rw [zF.o];exact h)) (by rw [zF.o];exact Zw _) (fun _ _ _ h=>h.elim)).fr hf (Zw _) (Ip _ Zd)
  rcases List.mem_or_eq_of_mem_set hx with hx|rfl
  ·exact pE x hx
  ·exact pE P[m] (Ot KO)
 have cd:Hid (T.ZJ n true).Small:=⟨MF.o.ZA,by unfold ZN.ZJ;dsimp only;rw [List.length_set];exact MF.o.Yk,MF.o.Z5⟩
 have mC:Hid (∀ w1,Below W1 W1 w1→Calls Tryz.prog 49 (Qj (some ⟨b,0,none⟩) n) w1 fun e w'=>e = .returned (.int .i64 m)∧Below w1 w1 w'):=fun w1 h=>CB.o w1 (by have:=RU.o.below h;exact this)
 have N9:Below W1 W1 W1:=YH _ _
 clear oV JM vd HMT c1 f1 c2 f2
 have HLLEN:((T.ZJ n true).Zx n).length≤8:=Sl _ n 8
 have I6:Hid (∀ k,k<((T.ZJ n true).Zx n).length→(((T.ZJ n true).Zx n).take (k+1)).flatMap ((T.ZJ n true).Y5 n true)=(((T.ZJ n true).Zx n).take k).flatMap ((T.ZJ n true).Y5 n true)++(T.ZJ n true).Y5 n true (((T.ZJ n true).Zx n).getD k 0)):=fun k h=>Na _ h
 have mV:Hid (∀ k,k<((T.ZJ n true).Zx n).length→0≤(T.ZJ n true).Zb (((T.ZJ n true).Zx n).getD k 0:Nat) n):=fun k h=>(Km.1 (GJ h)).2.2
 have mO:Hid (∀ k,((((T.ZJ n true).Zx n).take k).flatMap ((T.ZJ n true).Y5 n true)).length≤16):=fun k=>by
  have h1:=OX (T.ZJ n true) n true (((T.ZJ n true).Zx n).take k)
  rw [Tg] at h1;omega
 have HFP:Hid (∀ (p:Nat) (q:Nat) (hq:q<(T.ZJ n true).Z5.length),(T.ZJ n true).Zb (p:Int) n=q→(T.ZJ n true).Y5 n true p=[⟨6,p,n,0,0⟩]):=fun p q hq e=>rfl
 have Nt:=trivial
 generalize T.ZJ n true=T1 at *
 go_upto_region 2 with fail
 go_cut [] (fun wx=>ZL wx b T1∧Fr w (· = b) w wx)
 case first=>
  go_region_with ((go_at_call 49;(with_reducible refine (mC.o _ D4).mono ?_);rintro e V2 ⟨rfl,NY⟩;have o5:Below W1 W1 V2:=Heap.Below.call D4 (Zw _) NY;obtain ⟨v1,v2,v3⟩:=Vp.o _ o5))
  all_goals
   obtain ⟨NC,GV⟩:=Ga.o _ o5
   generalize V2.setCell ⟨g,m*4+3,none⟩ (.bool true)=W3 at *
   go_wp2_with fail
   go_meet
   exact ⟨NC,GV⟩
 case rest=>
  obtain ⟨NC,GV⟩:=hcut
  obtain ⟨W3,rfl⟩:∃ W3:World,W3=wc:=⟨_,rfl⟩
  have zD:=Zh NC
  have mP:=Zh GV
  have pM:=GV.size
  have CH:=Zh (J_ b T1 n W3 NC)
  clear NC GV
  generalize T1.Zx n=L at *
  generalize T1.Y5 n true=f at *
  go_wp2_with fail
  (with_reducible refine CH.o.mono ?_)
  rintro e w1 ⟨⟨lv,rfl,Z0⟩,YZ⟩
  have Vi:=Zh Z0
  have J5:Hid (Fr w (· = b) w w1):=mP.o.trans ((Fr.Z8 _ YZ).mono pM (fun _ _ h=>h))
  have zB:=Zh (zD.o.below YZ)
  obtain ⟨la,xA,rfl,-,-⟩:=id Z0
  clear YZ Z0 CH mP zD
  go_wp2_with fail
  go_loopw [7,33] (fun v i w'=>∃ k:Nat,k≤L.length∧i = .int .i64 k∧Fr w (· = b) w w'∧Row w' 3 (.slice la L.length xA) L.length (ints L)∧ZL w' b T1∧w'.ownsRow w 158 5 v ((L.take k).flatMap f).length (((L.take k).flatMap f).flatMap Z9)) (fun _ i _=>L.length-(intOf i).toNat)
  case atStart=>exact ⟨0,Zo,rfl,J5.o,Vi.o,zB.o,Ua _ _ _ _⟩
  case round=>
   obtain ⟨k,hk,rfl,Wx,Z0,U3,YJ⟩:=hrel
   clear J5 zB Vi
   have Uh:=Zh Wx
   have Vi:=Zh Z0
   have Vr:=Zh U3
   have Yl:=Zh YJ
   have T5:=Wx.size
   clear Wx YJ U3
   by_cases VR:k<L.length
   ·obtain ⟨gl,offl,capl,e1,Bz,Yw⟩:=Ti Z0 Zo
    cases e1
    have hc:=Yw k VR
    have HS:=Zh (I6.o k VR)
    have Ao:=mV.o k VR
    have BN:=mO.o k
    obtain ⟨q,hq,MN,IV,-⟩:=XL Ao
    have MN:T1.Zb (L.getD k 0:Nat) n=q:=MN
    have HP:=Zh (HFP.o (L.getD k 0) q hq MN)
    have CA:=Zh (fun w1 (h:Below wr wr w1)=>Wy b T1 (L.getD k 0:Nat) n w1 (Vr.o.below h))
    rw [MN] at CA
    obtain ⟨pv,sv,uv,Yp,XM⟩:=Vr.o.VC
    have UI:=XM.Z5
    have hlenU:=UI.len
    have Bx:=cell_of Yp 2
    obtain ⟨ua,LY,rfl,-,-⟩:=id UI
    obtain ⟨gu,Tj,e2,yT⟩:=O0 UI Zo
    subst e2
    obtain ⟨d0,d1,d2,d3⟩:=yT q T1.Z5[q] (U7 hq)
    have kV:gu<wr.heap.size:=by
     rcases Nat.lt_or_ge gu wr.heap.size with h|h
     ·exact h
     ·simp [World.cell?,Fm h] at d0
    have Iq:T1.Z5[q].source=n:=by simp at IV;exact IV.2
    have htriv:=trivial
    have GS:=Vr.o.lt
    clear Yw Z0 UI XM Yp yT MN IV Ao HFP Nt
    generalize T1.Z5[q]=x at *
    clear cd
    generalize T1.Z5.length=NU at *
    generalize L.getD k 0=p at *
    generalize (L.take k).flatMap f=G at *
    obtain ⟨x0,x1,x2,x3⟩:=x
    dsimp only at d0 d1 d2 d3 Iq HP
    subst Iq
    have Zz:Hid (∀ w',Below wr wr w'→w'.cell? ⟨b,2,none⟩=some (.slice (some ⟨gu,Tj,none⟩) NU LY)∧w'.cell? ⟨gu,Tj+q*4,none⟩=some (.int .i64 x0)∧w'.cell? ⟨gu,Tj+q*4+1,none⟩=some (.int .i64 x1)∧w'.cell? ⟨gu,Tj+q*4+2,none⟩=some (.int .i64 x2)∧w'.cell? ⟨gu,Tj+q*4+3,none⟩=some (.bool x3)∧Below wr wr w'):=fun w' h=>
     ⟨(h.cell (p:=⟨b,2,none⟩) GS).trans Bx,(h.cell (p:=⟨gu,Tj+q*4,none⟩) kV).trans d0,(h.cell (p:=⟨gu,Tj+q*4+1,none⟩) kV).trans d1,(h.cell (p:=⟨gu,Tj+q*4+2,none⟩) kV).trans d2,(h.cell (p:=⟨gu,Tj+q*4+3,none⟩) kV).trans d3,h⟩
    have N9:Below wr wr wr:=YH _ _
    go_upto_region 7 with fail
    go_cut [] (fun wx=>Below wr wr wx)
    case first=>
     go_region_held3 (fun w'=>w'.cell? ⟨b,2,none⟩=some (.slice (some ⟨gu,Tj,none⟩) NU LY)∧w'.cell? ⟨gu,Tj+q*4,none⟩=some (.int .i64 x0)∧w'.cell? ⟨gu,Tj+q*4+1,none⟩=some (.int .i64 x1)∧w'.cell? ⟨gu,Tj+q*4+2,none⟩=some (.int .i64 x2)∧w'.cell? ⟨gu,Tj+q*4+3,none⟩=some (.bool x3)∧Below wr wr w') (first|(exact Zz.o _ WT)|(exact Zz.o _ (Below.drew WT))|(exact Zz.o _ (Heap.Below.alloc' WT (Zw _) _))|(exact Zz.o _ (Heap.Below.alloc' (Below.drew WT) (Zw _) _))|(exact Zz.o _ (Below.setCell (Below.setCell (Below.setCell (Below.setCell WT Zi _) Zi _) Zi _) Zi _))|(exact Zz.o _ (Below.setCell (Below.setCell (Below.setCell (Below.setCell (Below.drew WT) Zi _) Zi _) Zi _) Zi _))|go_keep) (first|(go_at_call 51;go_split_ands;(with_reducible refine Calls.mono (CA.o _ WT) ?_);rintro e w2 ⟨rfl,Y0⟩;have Yt:=Heap.Below.call WT (Zw _) Y0;obtain ⟨Mp,KN⟩:=S3 Y0;have Sr:=Y0.size)|fail)
     all_goals
      clear N9
      obtain ⟨-,-,-,-,-,Oa⟩:= ‹_∧_∧_∧_∧_∧Below wr wr _›
      (go_wp2_with fail;go_meet;exact Oa)
    case rest=>
     clear N9
     have Oa:=hcut
     obtain ⟨W4,rfl⟩:∃ W4:World,W4=wc:=⟨_,rfl⟩
     have bI:=Zh Oa
     have HO0:=Zh (Zy Yl.o Oa)
     have Io:=Oa.size
     clear Oa
     go_wp2_with (at_builtin;refine YV rfl (.tmp 48) (.tmp 52) 98 rfl w.heap.size XP _ G.length (G.flatMap Z9) rfl (HO0.o.alloc _) _ 1 ([⟨6,p,x1,0,0⟩].flatMap Z9) rfl (Yu _ _ 1 _ ([⟨6,p,x1,0,0⟩].flatMap Z9) Zd Zi) rfl (Yc _) Zo Zo (PW T5 (PW Io Zi)) (fun v' w3 HO HG=>?_))
     go_roundw
     case rel=>
      have W9:=bI.o.alloc bI.o.size (.cells ([⟨6,p,x1,0,0⟩].flatMap Z9).toArray 158)
      have Sn:=Zy Yl.o W9
      refine ⟨k+1,Zo,Zn,?_,?_,?_,?_⟩
      ·exact (Uh.o.trans ((Fr.Z8 _ W9).mono T5 (fun _ _ h=>h))).grown HG.o (PW T5 W9.size) (YL Yl.o)
      ·exact Row.grown (Vi.o.below W9) Sn HG.o Zd
      ·exact ZL.grown (Vr.o.below W9) Sn HG.o hb
      ·rw [HS.o,HP.o,UM,O_]
       exact HO.o
     case measure=>simp [intOf];omega
   ·exact gS
theorem uf (b:Nat) (T:ZN) (n:Int) (w:World) (hR:ZL w b T) (Vq:T.Small) (hs:0≤T.YU n) (Th:∀ x∈(T.ZJ n false).Z5,x.source=n→0≤(T.ZJ n false).YU n∧0≤x.want∧x.want<((T.ZJ n false).Wc n).ss.length) :
  Calls Tryz.prog 101 (Jg (some ⟨b,0,none⟩) n false) w fun e w'=>(∃ v,e = .returned v∧YG w' v (T.mute n false).1)∧ZL w' b (T.mute n false).2∧Fr w (· = b) w w':=by
 have hb:=hR.lt
 obtain ⟨m,hm,Pp,-,-⟩:=XL hs
 have Pp:T.YU n=m:=Pp
 have CB:=Zh (fun (w1:World) (h:ZL w1 b T)=>V6 b T n w1 h)
 rw [Pp] at CB
 have qX:Hid (T.mute n false=(((T.ZJ n false).Zx n).flatMap ((T.ZJ n false).Y5 n false),T.ZJ n false)):=rfl
 obtain ⟨pv,sv,uv,Yp,XM⟩:=hR.VC
 obtain ⟨P,TF,Sp,T4⟩:=XM.Yk
 have KO:m<P.length:=by rw [←TF,Tx] at hm;exact hm
 have Uz:=Vq.Yk
 unfold small at Uz
 have hPl:P.length≤100000:=by rw [←TF,Tx] at Uz;exact Uz
 have pL:∀ x∈P,∃ a n c,x.2 = .slice a n c:=fun x hx=>by obtain ⟨a,c,h,-,-⟩:=T4 x hx;exact ⟨a,_,c,h⟩
 have BQ:Hid (∀ u∈P.flatMap Zt,u.oneCell'=true):=PM pL
 have BP:=Zh (SZ P)
 have HMT:Hid (T.ZJ n false={T with Yk:=(P.set m ({P[m].1 with ZG:=false},P[m].2)).map Prod.fst}):=by
  show _=_
  unfold ZN.ZJ ZN.Wc
  rw [Pp,Wv,List.map_set,TF]
  congr 2
  rw [show T.Yk.getD m UO=P[m].1 by rw [←TF,Ut KO]]
 have QX:=Zh Sp
 have BW:=Zh T4
 have HR:=Zh hR
 have jr:=Zh TF
 have MF:=Zh Vq
 have qW:=Zh KO
 have c1:=cell_of Yp 1
 have f1:=hR.YC 1
 obtain ⟨a,cap,rfl,Pq,wR,-,-⟩:=id Sp
 clear hR Vq hs Pp Yp XM Sp T4 TF Uz pL hm
 go_enter Tryz.func101,Tryz.ntmps101
 go_wp2_with (at_builtin;refine YV rfl (.const (.slice none 0 0)) (.tmp 15) 48 rfl w.heap.size U2 (.slice none 0 0) 0 [] rfl (Ua _ _ _ _) (.slice a P.length cap) P.length (P.flatMap Zt) rfl QX.o BP.o BQ.o Zo Zo (Zw _) (fun v1 w2 rQ HG=>?_);have HQ:Hid (w2.ownsRow w 108 4 v1 P.length (P.flatMap Zt)):=nM;clear rQ;have Yt:Below w w w2:=(YH _ _).grown HG.o (Zw _) (fun k hk=>by cases hk);have c2:=(Yt.cell (p:=⟨b,1,none⟩) hb).trans c1;have f2:=(Yt.frozen (p:=⟨b,1,none⟩) hb).trans f1;obtain ⟨g,cp,cur,hv,wW,JM⟩:=PC HQ.o Zo;subst hv)
 have RU:=Zh ((HR.o.below Yt).IB P jr.o (Row.Z6 HQ.o) (fun x hx=>(BW.o x hx).below Yt))
 have Lp:g≠b:=by omega
 have Ui:=Zh (WJ HQ.o ((Fr.refl w2.heap.size (· = b) w2).setAt 1 (.slice (some ⟨g,0,none⟩) P.length cp)) (fun k hk=>by omega))
 have IH:Hid (Fr w (· = b) w (w2.setCell ⟨b,1,none⟩ (.slice (some ⟨g,0,none⟩) P.length cp))):=(Fr.Z8 _ Yt).setAt _ _
 have iH:(m:Int)<(P.length:Int):=Ou.2 KO
 have td:(0:Int)≤(m:Int):=rq m
 have k1:(w2.setCell ⟨b,1,none⟩ (.slice (some ⟨g,0,none⟩) P.length cp)).cell? ⟨b,1,none⟩=some (.slice (some ⟨g,0,none⟩) P.length cp):=rp _ _ _ c2
 have kU:g<w2.heap.size:=by
  exact Yt9
 generalize oV:w2.setCell ⟨b,1,none⟩ (.slice (some ⟨g,0,none⟩) P.length cp)=W1 at *
 have QV:W1.heap.size=w2.heap.size:=by rw [←oV,size_setCell]
 have zF:=Zh oV
 have vd:W1.frozen? ⟨g,m*4+3,none⟩=false:=by
  have h:W1.heap[g]?=some (.cells cur 108):=by rw [←oV];simp [World.setCell,Array.getElem?_modify,Lp.symm,JM]
  simp [World.frozen?,h]
 have wV:W1.heap[g]?=some (.cells cur 108):=by rw [←oV];simp [World.setCell,Array.getElem?_modify,Lp.symm,JM]
 have wR:W1.cell? ⟨g,m*4+3,none⟩=some (.bool P[m].1.ZG):=by
  obtain ⟨g',off',e,hc⟩:=SF (Row.Z6 Ui.o) Zo
  cases e
  have:=(hc m P[m] (U7 KO)).2.2.2
  rwa [QP] at this
 have Vp:Hid (∀ w',Below W1 W1 w'→w'.cell? ⟨b,1,none⟩=some (.slice (some ⟨g,0,none⟩) P.length cp)∧w'.cell? ⟨g,m*4+3,none⟩=some (.bool P[m].1.ZG)∧w'.frozen? ⟨g,m*4+3,none⟩=false):=fun w' h=>
  ⟨(h.cell (p:=⟨b,1,none⟩) (by dsimp only;rw [QV];exact Pb hb Yt.size)).trans k1,(h.cell (p:=⟨g,m*4+3,none⟩) Uj).trans wR,(h.frozen (p:=⟨g,m*4+3,none⟩) Uj).trans vd⟩
 have eN:w.heap.size≤W1.heap.size:=by have:=Yt.size;omega
 have Ga:Hid (∀ w',Below W1 W1 w'→ZL (w'.setCell ⟨g,m*4+3,none⟩ (.bool false)) b (T.ZJ n false)∧Fr w (· = b) w (w'.setCell ⟨g,m*4+3,none⟩ (.bool false))):=fun w' h=>by
  have hr:=RU.o.below h
  have hq:=Zy Ui.o h
  have hf:Fr w' (· = g) w' (w'.setCell ⟨g,m*4+3,none⟩ (.bool false)):=(Fr.refl _ _ _).setAt _ _
  have rA:w'.heap[g]?=some (.cells cur 108):=by
   rw [h.block g Zo];exact wV
  have Ip:∀ e,108≠e→∀ k c fr,k=g→w'.heap[k]?≠some (.cells c e fr):=by
   intro e he k c fr hk
   subst hk
   rw [rA]
   exact Ux he
  have GS:=hr.lt
  have tB:=Vf hq Zo (i:=m*4+3) (.bool false)
  rw [H9 false P m KO] at tB
  have eD:=Row.Z6 tB
  obtain ⟨pv',BF,mB,Ll,tq,⟨ms',iT,Im,yY⟩,hu'⟩:=hr.VC
  have pK:BF = .slice (some ⟨g,0,none⟩) P.length cp:=by
   have h1:=cell_of Ll 1
   rw [(Vp.o w' h).1] at h1
   simpa using h1.symm
  subst pK
  refine ⟨⟨pv',.slice (some ⟨g,0,none⟩) P.length cp,mB,by rw [hf.block b GS (fun e=>Lp e.symm)];exact Ll,?_⟩,(IH.o.trans ((Fr.Z8 (· = b) h).mono eN (fun _ _ h=>h))).setCell (Ww wW) _⟩
  rw [HMT.o]
  refine ⟨tq.fr hf (Zw _) (Ip _ Zd),⟨P.set m ({P[m].1 with ZG:=false},P[m].2),rfl,by rw [List.length_set];exact eD,?_⟩,hu'.fr hf (Zw _) (Ip _ Zd)⟩
  intro x hx
  have pE:∀ x∈P,Row (w'.setCell ⟨g,m*4+3,none⟩ (.bool false)) 66 x.2 x.1.ss.length (YO x.1.ss):=fun x hx=>((((BW.o x hx).below Yt).fr ((Fr.refl w2.heap.size (· = b) w2).setAt 1 (.slice (some ⟨g,0,none⟩) P.length cp)) (Zw _) ((HR.o.below Yt).F8 Zd)).fr (Fr.Z8 P_ (by rw [zF.o];exact h)) (by rw [zF.o];exact Zw _) (fun _ _ _ h=>h.elim)).fr hf (Zw _) (Ip _ Zd)
  rcases List.mem_or_eq_of_mem_set hx with hx|rfl
  ·exact pE x hx
  ·exact pE P[m] (Ot KO)
 have cd:Hid (T.ZJ n false).Small:=⟨MF.o.ZA,by unfold ZN.ZJ;dsimp only;rw [List.length_set];exact MF.o.Yk,MF.o.Z5⟩
 have mC:Hid (∀ w1,Below W1 W1 w1→Calls Tryz.prog 49 (Qj (some ⟨b,0,none⟩) n) w1 fun e w'=>e = .returned (.int .i64 m)∧Below w1 w1 w'):=fun w1 h=>CB.o w1 (by have:=RU.o.below h;exact this)
 have N9:Below W1 W1 W1:=YH _ _
 clear oV JM vd HMT c1 f1 c2 f2
 have HLLEN:((T.ZJ n false).Zx n).length≤8:=Sl _ n 8
 have I6:Hid (∀ k,k<((T.ZJ n false).Zx n).length→(((T.ZJ n false).Zx n).take (k+1)).flatMap ((T.ZJ n false).Y5 n false)=(((T.ZJ n false).Zx n).take k).flatMap ((T.ZJ n false).Y5 n false)++(T.ZJ n false).Y5 n false (((T.ZJ n false).Zx n).getD k 0)):=fun k h=>Na _ h
 have mV:Hid (∀ k,k<((T.ZJ n false).Zx n).length→0≤(T.ZJ n false).Zb (((T.ZJ n false).Zx n).getD k 0:Nat) n):=fun k h=>(Km.1 (GJ h)).2.2
 have mO:Hid (∀ k,((((T.ZJ n false).Zx n).take k).flatMap ((T.ZJ n false).Y5 n false)).length≤16):=fun k=>by
  have h1:=OX (T.ZJ n false) n false (((T.ZJ n false).Zx n).take k)
  rw [Tg] at h1;omega
 have HFP:Hid (∀ (p:Nat) (q:Nat) (hq:q<(T.ZJ n false).Z5.length),(T.ZJ n false).Zb (p:Int) n=q→(T.ZJ n false).Y5 n false p=⟨7,p,n,0,0⟩ :: (if (T.ZJ n false).Z5[q].ZR then [] else [(T.ZJ n false).ask (T.ZJ n false).Z5[q]])):=fun p q hq e=>by
  unfold ZN.Y5 ZN.OZ
  rw [e,Wv,Nv hq]
  rfl
 have Nt:Hid (∀ x∈(T.ZJ n false).Z5,x.source=n→0≤(T.ZJ n false).YU n∧0≤x.want∧x.want<((T.ZJ n false).Wc n).ss.length):=Th
 generalize T.ZJ n false=T1 at *
 go_upto_region 2 with fail
 go_cut [] (fun wx=>ZL wx b T1∧Fr w (· = b) w wx)
 case first=>
  go_region_with ((go_at_call 49;(with_reducible refine (mC.o _ D4).mono ?_);rintro e V2 ⟨rfl,NY⟩;have o5:Below W1 W1 V2:=Heap.Below.call D4 (Zw _) NY;obtain ⟨v1,v2,v3⟩:=Vp.o _ o5))
  all_goals
   obtain ⟨NC,GV⟩:=Ga.o _ o5
   generalize V2.setCell ⟨g,m*4+3,none⟩ (.bool false)=W3 at *
   go_wp2_with fail
   go_meet
   exact ⟨NC,GV⟩
 case rest=>
  obtain ⟨NC,GV⟩:=hcut
  obtain ⟨W3,rfl⟩:∃ W3:World,W3=wc:=⟨_,rfl⟩
  have zD:=Zh NC
  have mP:=Zh GV
  have pM:=GV.size
  have CH:=Zh (J_ b T1 n W3 NC)
  clear NC GV
  generalize T1.Zx n=L at *
  generalize T1.Y5 n false=f at *
  go_wp2_with fail
  (with_reducible refine CH.o.mono ?_)
  rintro e w1 ⟨⟨lv,rfl,Z0⟩,YZ⟩
  have Vi:=Zh Z0
  have J5:Hid (Fr w (· = b) w w1):=mP.o.trans ((Fr.Z8 _ YZ).mono pM (fun _ _ h=>h))
  have zB:=Zh (zD.o.below YZ)
  obtain ⟨la,xA,rfl,-,-⟩:=id Z0
  clear YZ Z0 CH mP zD
  go_wp2_with fail
  go_loopw [7,33] (fun v i w'=>∃ k:Nat,k≤L.length∧i = .int .i64 k∧Fr w (· = b) w w'∧Row w' 3 (.slice la L.length xA) L.length (ints L)∧ZL w' b T1∧w'.ownsRow w 158 5 v ((L.take k).flatMap f).length (((L.take k).flatMap f).flatMap Z9)) (fun _ i _=>L.length-(intOf i).toNat)
  case atStart=>exact ⟨0,Zo,rfl,J5.o,Vi.o,zB.o,Ua _ _ _ _⟩
  case round=>
   obtain ⟨k,hk,rfl,Wx,Z0,U3,YJ⟩:=hrel
   clear J5 zB Vi
   have Uh:=Zh Wx
   have Vi:=Zh Z0
   have Vr:=Zh U3
   have Yl:=Zh YJ
   have T5:=Wx.size
   clear Wx YJ U3
   by_cases VR:k<L.length
   ·obtain ⟨gl,offl,capl,e1,Bz,Yw⟩:=Ti Z0 Zo
    cases e1
    have hc:=Yw k VR
    have HS:=Zh (I6.o k VR)
    have Ao:=mV.o k VR
    have BN:=mO.o k
    obtain ⟨q,hq,MN,IV,-⟩:=XL Ao
    have MN:T1.Zb (L.getD k 0:Nat) n=q:=MN
    have HP:=Zh (HFP.o (L.getD k 0) q hq MN)
    have CA:=Zh (fun w1 (h:Below wr wr w1)=>Wy b T1 (L.getD k 0:Nat) n w1 (Vr.o.below h))
    rw [MN] at CA
    obtain ⟨pv,sv,uv,Yp,XM⟩:=Vr.o.VC
    have UI:=XM.Z5
    have hlenU:=UI.len
    have Bx:=cell_of Yp 2
    obtain ⟨ua,LY,rfl,-,-⟩:=id UI
    obtain ⟨gu,Tj,e2,yT⟩:=O0 UI Zo
    subst e2
    obtain ⟨d0,d1,d2,d3⟩:=yT q T1.Z5[q] (U7 hq)
    have kV:gu<wr.heap.size:=by
     rcases Nat.lt_or_ge gu wr.heap.size with h|h
     ·exact h
     ·simp [World.cell?,Fm h] at d0
    have Iq:T1.Z5[q].source=n:=by simp at IV;exact IV.2
    have Fe:=Zh (fun w1 (h:ZL w1 b T1)=>by
     have hh:=Nt.o T1.Z5[q] (Ot hq) Iq
     have h1:=Ii b T1 T1.Z5[q] w1 h (by rw [Iq];exact hh.1) (by rw [Iq];exact hh.2)
     unfold V8 at h1
     exact h1)
    generalize T1.ask T1.Z5[q]=TA at *
    have GS:=Vr.o.lt
    clear Yw Z0 UI XM Yp yT MN IV Ao HFP Nt
    generalize T1.Z5[q]=x at *
    clear cd
    generalize T1.Z5.length=NU at *
    generalize L.getD k 0=p at *
    generalize (L.take k).flatMap f=G at *
    obtain ⟨x0,x1,x2,x3⟩:=x
    dsimp only at d0 d1 d2 d3 Iq HP Fe
    subst Iq
    have Zz:Hid (∀ w',Below wr wr w'→w'.cell? ⟨b,2,none⟩=some (.slice (some ⟨gu,Tj,none⟩) NU LY)∧w'.cell? ⟨gu,Tj+q*4,none⟩=some (.int .i64 x0)∧w'.cell? ⟨gu,Tj+q*4+1,none⟩=some (.int .i64 x1)∧w'.cell? ⟨gu,Tj+q*4+2,none⟩=some (.int .i64 x2)∧w'.cell? ⟨gu,Tj+q*4+3,none⟩=some (.bool x3)∧Below wr wr w'):=fun w' h=>
     ⟨(h.cell (p:=⟨b,2,none⟩) GS).trans Bx,(h.cell (p:=⟨gu,Tj+q*4,none⟩) kV).trans d0,(h.cell (p:=⟨gu,Tj+q*4+1,none⟩) kV).trans d1,(h.cell (p:=⟨gu,Tj+q*4+2,none⟩) kV).trans d2,(h.cell (p:=⟨gu,Tj+q*4+3,none⟩) kV).trans d3,h⟩
    have N9:Below wr wr wr:=YH _ _
    go_upto_region 7 with fail
    go_cut [10] (fun s10 wx=>∃ g5:Nat,s10 = .pointer (some ⟨g5,0,none⟩)∧(wx.cell? ⟨g5,0,none⟩=some (.int .i64 x0)∧wx.cell? ⟨g5,1,none⟩=some (.int .i64 x1)∧wx.cell? ⟨g5,2,none⟩=some (.int .i64 x2)∧wx.cell? ⟨g5,3,none⟩=some (.bool x3))∧wr.heap.size≤g5∧g5<wx.heap.size∧Below wr wr wx)
    case first=>
     go_region_held3 (fun w'=>w'.cell? ⟨b,2,none⟩=some (.slice (some ⟨gu,Tj,none⟩) NU LY)∧w'.cell? ⟨gu,Tj+q*4,none⟩=some (.int .i64 x0)∧w'.cell? ⟨gu,Tj+q*4+1,none⟩=some (.int .i64 x1)∧w'.cell? ⟨gu,Tj+q*4+2,none⟩=some (.int .i64 x2)∧w'.cell? ⟨gu,Tj+q*4+3,none⟩=some (.bool x3)∧Below wr wr w') (first|(exact Zz.o _ WT)|(exact Zz.o _ (Below.drew WT))|(exact Zz.o _ (Heap.Below.alloc' WT (Zw _) _))|(exact Zz.o _ (Heap.Below.alloc' (Below.drew WT) (Zw _) _))|(exact Zz.o _ (Below.setCell (Below.setCell (Below.setCell (Below.setCell WT Zi _) Zi _) Zi _) Zi _))|(exact Zz.o _ (Below.setCell (Below.setCell (Below.setCell (Below.setCell (Below.drew WT) Zi _) Zi _) Zi _) Zi _))|go_keep) (first|(go_at_call 51;go_split_ands;(with_reducible refine Calls.mono (CA.o _ WT) ?_);rintro e w2 ⟨rfl,Y0⟩;have Yt:=Heap.Below.call WT (Zw _) Y0;obtain ⟨Mp,KN⟩:=S3 Y0;have Sr:=Y0.size)|fail)
     all_goals
      clear N9
      obtain ⟨-,-,-,-,-,Oa⟩:= ‹_∧_∧_∧_∧_∧Below wr wr _›
      (go_wp2_with fail;go_meet;first|exact ⟨_,rfl,⟨cell_of (Z7 w2 _) 0,cell_of (Z7 w2 _) 1,cell_of (Z7 w2 _) 2,cell_of (Z7 w2 _) 3⟩,Yt.size,by simp,Oa⟩|exact ⟨_,rfl,set4 ((Mp _ _ Zi).trans (cell_of (Z7 _ _) 0)) ((Mp _ _ Zi).trans (cell_of (Z7 _ _) 1)) ((Mp _ _ Zi).trans (cell_of (Z7 _ _) 2)) ((Mp _ _ Zi).trans (cell_of (Z7 _ _) 3)),Zw _,by simp at Sr;simp;omega,Oa⟩)
    case rest=>
     clear N9
     obtain ⟨g5,rfl,⟨e0,e1,e2,e3⟩,dV,hg5b,Oa⟩:=hcut
     obtain ⟨W4,rfl⟩:∃ W4:World,W4=wc:=⟨_,rfl⟩
     have bI:=Zh Oa
     have HO0:=Zh (Zy Yl.o Oa)
     have Io:=Oa.size
     clear Oa
     have DU:=Zh (bI.o.alloc bI.o.size (.cells ([⟨7,p,x1,0,0⟩].flatMap Z9).toArray 158))
     have qU:=Zh (fun (w3:World) (hg:(W4.alloc (.cells ([⟨7,p,x1,0,0⟩].flatMap Z9).toArray 158)).grownBy w3 _) (j:Nat)=>(sO hg (fx Yl.o) dV Uq j).trans ((Z' W4 _).cell (p:=⟨g5,j,none⟩) hg5b))
     have HRG:=Zh (fun (w3:World) (hg:(W4.alloc (.cells ([⟨7,p,x1,0,0⟩].flatMap Z9).toArray 158)).grownBy w3 _)=>ZL.grown (Vr.o.below DU.o) (Zy Yl.o DU.o) hg hb)
     cases x3
     ·go_wp2_with (first|(at_builtin;refine YV rfl (.tmp 54) (.tmp 58) 98 rfl w.heap.size XP _ G.length (G.flatMap Z9) rfl (HO0.o.alloc _) _ 1 ([⟨7,p,x1,0,0⟩].flatMap Z9) rfl (Yu _ _ 1 _ ([⟨7,p,x1,0,0⟩].flatMap Z9) Zd Zi) rfl (Yc _) Zo Zo (PW T5 (PW Io Zi)) (fun v' w3 HO HG=>?_);have FA:=HRG.o w3 HG.o;have e0':=(qU.o w3 HG.o 0).trans e0;have e1':=(qU.o w3 HG.o 1).trans e1;have e2':=(qU.o w3 HG.o 2).trans e2;have e3':=(qU.o w3 HG.o 3).trans e3;have pW:=HG.o.size)|(go_at_call 99;(with_reducible refine (Fe.o _ FA).mono ?_);rintro e w5 ⟨rfl,Lj⟩;have P7:=Zh Lj;have JR:=Lj.size;clear Lj)|(at_builtin;refine YV rfl (.tmp 63) (.tmp 67) 98 rfl w.heap.size XP _ (G++[YD.mk 7 p x1 0 0]).length ((G++[YD.mk 7 p x1 0 0]).flatMap Z9) rfl ?b1 _ 1 ([TA].flatMap Z9) rfl ?b2 rfl (Yc _) ?b5 ?b6 ?b7 (fun v' w6 I2 zq=>?_)))
      case b1=>rw [UM,O_];exact (Zy HO.o P7.o).alloc _
      case b2=>exact Yu _ _ 1 _ ([TA].flatMap Z9) Zd rfl
      case b5=>rw [UM];simp;omega
      case b6=>rw [UM];simp;omega
      case b7=>simp at pW;simp;omega
      go_roundw
      case rel=>
       simp at pW
       have kO:=P7.o.alloc P7.o.size (.cells ([TA].flatMap Z9).toArray 158)
       have iL:=(Zy HO.o kO)
       have g0:=Uh.o.trans ((Fr.Z8 (· = b) DU.o).mono T5 (fun _ _ h=>h))
       have g1:=g0.grown HG.o Uq (YL Yl.o)
       have g2:=g1.trans ((Fr.Z8 (· = b) kO).mono Zo (fun _ _ h=>h))
       refine ⟨k+1,Zo,Zn,?_,?_,?_,?_⟩
       ·exact g2.grown zq.o Uq (YL HO.o)
       ·exact Row.grown ((Row.grown (Vi.o.below DU.o) (Zy Yl.o DU.o) HG.o Zd).below kO) iL zq.o Zd
       ·exact ZL.grown ((HRG.o w3 HG.o).below kO) iL zq.o hb
       ·rw [HS.o,HP.o,UM,O_]
        have h6:=I2.o
        rw [O_,UM] at h6
        simpa using h6
      case measure=>simp [intOf];omega
     ·go_wp2_with (at_builtin;refine YV rfl (.tmp 54) (.tmp 58) 98 rfl w.heap.size XP _ G.length (G.flatMap Z9) rfl (HO0.o.alloc _) _ 1 ([⟨7,p,x1,0,0⟩].flatMap Z9) rfl (Yu _ _ 1 _ ([⟨7,p,x1,0,0⟩].flatMap Z9) Zd Zi) rfl (Yc _) Zo Zo (PW T5 (PW Io Zi)) (fun v' w3 HO HG=>?_);have e3':=(qU.o w3 HG.o 3).trans e3)
      go_roundw
      case rel=>
       have Sn:=Zy Yl.o DU.o
       refine ⟨k+1,Zo,Zn,?_,?_,?_,?_⟩
       ·exact (Uh.o.trans ((Fr.Z8 _ DU.o).mono T5 (fun _ _ h=>h))).grown HG.o (PW T5 DU.o.size) (YL Yl.o)
       ·exact Row.grown (Vi.o.below DU.o) Sn HG.o Zd
       ·exact HRG.o w3 HG.o
       ·rw [HS.o,HP.o,UM,O_]
        exact HO.o
      case measure=>simp [intOf];omega
   ·exact gS
end Go.Proofs.Rm
