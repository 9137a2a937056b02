/- Part of a proof. -/
import Derived.Test.YtpdjhlcbcomdkaaGreatDoorR14
set_option linter.unusedVariables false
set_option linter.unusedSimpArgs false
set_option maxRecDepth 100000
set_option maxHeartbeats 16000000
open Go Go.Q Go.Qr
namespace Go.Proofs.Rm
open Go.RowKit Go.Proofs.Heap Go.Proofs.Mem
theorem Pj {w:World} {base:Nat} {e:TypeId} {size:Nat} {v:Value} {n:Nat} {xs:List Value} (h:w.ownsRow base e size v n xs) (hn:0<n):∃ g cap cur,v = .slice (some ⟨g,0,none⟩) n cap∧base≤g∧w.heap[g]?=some (.cells cur e):=by
 obtain ⟨_,h⟩:=h;rcases h with ⟨_,h⟩|⟨g,cap,cur,hv,hg,hh,h1,h2,h3,h4⟩
 ·omega
 ·exact ⟨g,cap,cur,hv,hg,hh⟩
theorem OC (T:ZN) (n:Int) (on:Bool):∀ l:List Nat,(l.flatMap (T.Y0 n on)).length≤2*l.length
 | []=>Zw _
 | p :: l=>by
  rw [List.flatMap_cons,UE,List.length_cons];have h1:=OC T n on l;have h2:(T.Y0 n on p).length≤2:=by unfold ZN.Y0;split;simp;split <;> simp
  omega
theorem set4 {w:World} {b:Nat} {u0 u1 u2 u3 v0 v1 v2 v3:Value} (h0:w.cell? ⟨b,0,none⟩=some u0) (h1:w.cell? ⟨b,1,none⟩=some u1) (h2:w.cell? ⟨b,2,none⟩=some u2) (h3:w.cell? ⟨b,3,none⟩=some u3) :
  ((((w.setCell ⟨b,0,none⟩ v0).setCell ⟨b,1,none⟩ v1).setCell ⟨b,2,none⟩ v2).setCell ⟨b,3,none⟩ v3).cell? ⟨b,0,none⟩=some v0∧((((w.setCell ⟨b,0,none⟩ v0).setCell ⟨b,1,none⟩ v1).setCell ⟨b,2,none⟩ v2).setCell ⟨b,3,none⟩ v3).cell? ⟨b,1,none⟩=some v1 ∧
  ((((w.setCell ⟨b,0,none⟩ v0).setCell ⟨b,1,none⟩ v1).setCell ⟨b,2,none⟩ v2).setCell ⟨b,3,none⟩ v3).cell? ⟨b,2,none⟩=some v2∧((((w.setCell ⟨b,0,none⟩ v0).setCell ⟨b,1,none⟩ v1).setCell ⟨b,2,none⟩ v2).setCell ⟨b,3,none⟩ v3).cell? ⟨b,3,none⟩=some v3:=by
 obtain ⟨k0,k1,k2⟩:=set3 (v0:=v0) (v1:=v1) (v2:=v2) h0 h1 h2;refine ⟨(World.cell?_setCell_other _ _ _ _ Zi).trans k0,(World.cell?_setCell_other _ _ _ _ Zi).trans k1,(World.cell?_setCell_other _ _ _ _ Zi).trans k2,qC (u:=u3) _ _ _ ?_⟩;rw [World.cell?_setCell_other _ _ _ _ Zi,World.cell?_setCell_other _ _ _ _ Zi,World.cell?_setCell_other _ _ _ _ Zi];exact h3
theorem ez {base:Nat} {e:TypeId} {size:Nat} {v:Value} {n:Nat} {xs:List Value} {w:World} (h:w.ownsRow base e size v n xs):∀ k,v.ownBlock=some k→k<w.heap.size:=by
 intro k hk;obtain ⟨_,h⟩:=h;rcases h with ⟨rfl,_⟩|⟨g,cap,cur,rfl,hg,hh,_⟩
 ·cases hk
 ·have hk:some g=some k:=hk;cases hk;rcases Nat.lt_or_ge k w.heap.size with h|h
  ·exact h
  ·rw [E7 h] at hh;cases hh
theorem r_ {w w':World} {row:Option Nat} (hg:w.grownBy w' row) {B g:Nat} (hr:∀ k,row=some k→k<B) (hB:B≤g) (PV:g<w.heap.size) (j:Nat):w'.cell? ⟨g,j,none⟩=w.cell? ⟨g,j,none⟩:=
 World.cell?_of_block (w:=w) (hg.block g PV (fun e=>by have:=hr g e.symm;omega))
theorem U8 {w:World} {base:Nat} {e:TypeId} {size:Nat} {n:Nat} {xs:List Value} {g cap:Nat} (h:w.ownsRow base e size (.slice (some ⟨g,0,none⟩) n cap) n xs) (hn:0<n) {i:Nat} (u:Value):(w.setCell ⟨g,i,none⟩ u).ownsRow base e size (.slice (some ⟨g,0,none⟩) n cap) n (xs.set i u):=by
 exact Yx92
theorem Hn (on:Bool):∀ (P:List (Wl × Value)) (k:Nat) (hk:k<P.length),(P.flatMap Zq).set (k*4+3) (.bool on)=(P.set k ({P[k].1 with ZE:=on},P[k].2)).flatMap Zq
 | [],k,hk=>by simp at hk
 | x :: P,0,_=>by simp [Zq]
 | x :: P,k+1,hk=>by
  have ih:=Hn on P k (by simpa using hk);rw [List.flatMap_cons,List.set_append_right _ _ (by show 4≤_;omega),List.set_cons_succ,List.flatMap_cons];have:(k+1)*4+3-(Zq x).length=k*4+3:=by show _-4=_;omega
  rw [this,ih];rfl
theorem pU (b:Nat) (T:ZN) (n:Int) (w:World) (hR:ZL w b T) (Vl:T.Small) (hs:0≤T.YU n) :
  Calls Tryz.prog 101 (Jh (some ⟨b,0,none⟩) n true) w fun e w'=>(∃ v,e = .returned v∧YF w' v (T.mute n true).1)∧ZL w' b (T.mute n true).2∧Fr w (· = b) w w':=by
 have hb:=hR.lt;obtain ⟨m,hm,O8,-,-⟩:=XI hs;have O8:T.YU n=m:=O8;have CB:=Zh (fun (w1:World) (h:ZL w1 b T)=>VW b T n w1 h);rw [O8] at CB;have qu:Hid (T.mute n true=(((T.ZJ n true).Zv n).flatMap ((T.ZJ n true).Y0 n true),T.ZJ n true)):=rfl;obtain ⟨pv,sv,uv,Yn,XJ⟩:=hR.Vw;obtain ⟨P,Tt,Sd,Uc⟩:=XJ.Yg;have MJ:m<P.length:=by rw [←Tt,TB] at hm;exact hm
 have Uw:=Vl.Yg;unfold small at Uw;have hPl:P.length≤100000:=by rw [←Tt,TB] at Uw;exact Uw
 have oV:∀ x∈P,∃ a n c,x.2 = .slice a n c:=fun x hx=>by obtain ⟨a,c,h,-,-⟩:=Uc x hx;exact ⟨a,_,c,h⟩
 have Bw:Hid (∀ u∈P.flatMap Zq,u.oneCell'=true):=Pr oV;have Bv:=Zh (SU P)
 have HMT:Hid (T.ZJ n true={T with Yg:=(P.set m ({P[m].1 with ZE:=true},P[m].2)).map Prod.fst}):=by
  show _=_;unfold ZN.ZJ ZN.Wb;rw [O8,Wz,List.map_set,Tt]
  congr 2
  rw [show T.Yg.getD m UG=P[m].1 by rw [←Tt,Uj MJ]]
 have QL:=Zh Sd;have BC:=Zh Uc;have HR:=Zh hR;have iH:=Zh Tt;have Mr:=Zh Vl;have qq:=Zh MJ;have c1:=cell_of Yn 1;have f1:=hR.Yz 1;obtain ⟨a,cap,rfl,O9,wq,-,-⟩:=id Sd;clear hR Vl hs O8 Yn XJ Sd Uc Tt Uw oV hm;go_enter Tryz.func101,Tryz.ntmps101;go_wp2_with (at_builtin;refine YV rfl (.const (.slice none 0 0)) (.tmp 15) 48 rfl w.heap.size UW (.slice none 0 0) 0 [] rfl (TY _ _ _ _) (.slice a P.length cap) P.length (P.flatMap Zq) rfl QL.o Bv.o Bw.o Zo Zo (Zw _) (fun v1 w2 rh HG=>?_);have HQ:Hid (w2.ownsRow w 108 4 v1 P.length (P.flatMap Zq)):=mU;clear rh;have Yq:Below w w w2:=(YJ _ _).grown HG.o (Zw _) (fun k hk=>by cases hk);have c2:=(Yq.cell (p:=⟨b,1,none⟩) hb).trans c1;have f2:=(Yq.frozen (p:=⟨b,1,none⟩) hb).trans f1;obtain ⟨g,cp,cur,hv,wC,JB⟩:=Pj HQ.o Zo;subst hv)
 have Ry:=Zh ((HR.o.below Yq).Ij P iH.o (Row.Z6 HQ.o) (fun x hx=>(BC.o x hx).below Yq));have K6:g≠b:=by omega
 have T9:=Zh (WG HQ.o ((Fr.refl w2.heap.size (· = b) w2).setAt 1 (.slice (some ⟨g,0,none⟩) P.length cp)) (fun k hk=>by omega));have Io:Hid (Fr w (· = b) w (w2.setCell ⟨b,1,none⟩ (.slice (some ⟨g,0,none⟩) P.length cp))):=(Fr.Z7 _ Yq).setAt _ _;have kp:(m:Int)<(P.length:Int):=OP.2 MJ;have sB:(0:Int)≤(m:Int):=qD m;have k1:(w2.setCell ⟨b,1,none⟩ (.slice (some ⟨g,0,none⟩) P.length cp)).cell? ⟨b,1,none⟩=some (.slice (some ⟨g,0,none⟩) P.length cp):=qC _ _ _ c2
 have j6:g<w2.heap.size:=by
  exact Yt9
 generalize nX:w2.setCell ⟨b,1,none⟩ (.slice (some ⟨g,0,none⟩) P.length cp)=W1 at *
 have QJ:W1.heap.size=w2.heap.size:=by rw [←nX,size_setCell]
 have y_:=Zh nX
 have uJ:W1.frozen? ⟨g,m*4+3,none⟩=false:=by
  have h:W1.heap[g]?=some (.cells cur 108):=by rw [←nX];simp [World.setCell,Array.getElem?_modify,K6.symm,JB]
  simp [World.frozen?,h]
 have wz:W1.heap[g]?=some (.cells cur 108):=by rw [←nX];simp [World.setCell,Array.getElem?_modify,K6.symm,JB]
 have wq:W1.cell? ⟨g,m*4+3,none⟩=some (.bool P[m].1.ZE):=by
  obtain ⟨g',off',e,hc⟩:=Sw (Row.Z6 T9.o) Zo;cases e;have:=(hc m P[m] (Vb MJ)).2.2.2
  rwa [QD] at this
 have Vk:Hid (∀ w',Below W1 W1 w'→w'.cell? ⟨b,1,none⟩=some (.slice (some ⟨g,0,none⟩) P.length cp)∧w'.cell? ⟨g,m*4+3,none⟩=some (.bool P[m].1.ZE)∧w'.frozen? ⟨g,m*4+3,none⟩=false):=fun w' h=>
  ⟨(h.cell (p:=⟨b,1,none⟩) (by dsimp only;rw [QJ];exact OS hb Yq.size)).trans k1,(h.cell (p:=⟨g,m*4+3,none⟩) T_).trans wq,(h.frozen (p:=⟨g,m*4+3,none⟩) T_).trans uJ⟩
 have dO:w.heap.size≤W1.heap.size:=by have:=Yq.size;omega
 have FR:Hid (∀ w',Below W1 W1 w'→ZL (w'.setCell ⟨g,m*4+3,none⟩ (.bool true)) b (T.ZJ n true)∧Fr w (· = b) w (w'.setCell ⟨g,m*4+3,none⟩ (.bool true))):=fun w' h=>by
  have hr:=Ry.o.below h;have hq:=Zx T9.o h;have hf:Fr w' (· = g) w' (w'.setCell ⟨g,m*4+3,none⟩ (.bool true)):=(Fr.refl _ _ _).setAt _ _
  have qJ:w'.heap[g]?=some (.cells cur 108):=by
   rw [h.block g Zo];exact wz
  have H':∀ e,108≠e→∀ k c fr,k=g→w'.heap[k]?≠some (.cells c e fr):=by
   intro e he k c fr hk;subst hk;rw [qJ];exact Uo he
  have Gx:=hr.lt;have wJ:=U8 hq Zo (i:=m*4+3) (.bool true);rw [Hn true P m MJ] at wJ;have gY:=Row.Z6 wJ;obtain ⟨pv',Bj,lJ,K5,sF,⟨ms',hJ,H9,Cq⟩,hu'⟩:=hr.Vw
  have oU:Bj = .slice (some ⟨g,0,none⟩) P.length cp:=by
   have h1:=cell_of K5 1;rw [(Vk.o w' h).1] at h1;simpa using h1.symm
  subst oU;refine ⟨⟨pv',.slice (some ⟨g,0,none⟩) P.length cp,lJ,by rw [hf.block b Gx (fun e=>K6 e.symm)];exact K5,?_⟩,(Io.o.trans ((Fr.Z7 (· = b) h).mono dO (fun _ _ h=>h))).setCell (Ws wC) _⟩;rw [HMT.o];refine ⟨sF.fr hf (Zw _) (H' _ Zd),⟨P.set m ({P[m].1 with ZE:=true},P[m].2),rfl,by rw [List.length_set];exact gY,?_⟩,hu'.fr hf (Zw _) (H' _ Zd)⟩;intro x hx;have oL:∀ x∈P,Row (w'.setCell ⟨g,m*4+3,none⟩ (.bool true)) 66 x.2 x.1.ss.length (YO x.1.ss):=fun x hx=>((((BC.o x hx).below Yq).fr ((Fr.refl w2.heap.size (· = b) w2).setAt 1 (.slice (some ⟨g,0,none⟩) P.length cp)) (Zw _) ((HR.o.below Yq).FO Zd)).fr (Fr.Z7 PN (by rw [y_.o];exact h)) (by rw [y_.o];exact Zw _) (fun _ _ _ h=>h.elim)).fr hf (Zw _) (H' _ Zd)
  rcases List.mem_or_eq_of_mem_set hx with hx|rfl
  ·exact oL x hx
  ·exact oL P[m] (PA MJ)
 have br:Hid (T.ZJ n true).Small:=⟨Mr.o.ZA,by unfold ZN.ZJ;dsimp only;rw [List.length_set];exact Mr.o.Yg,Mr.o.Z0⟩;have lK:Hid (∀ w1,Below W1 W1 w1→Calls Tryz.prog 49 (Qk (some ⟨b,0,none⟩) n) w1 fun e w'=>e = .returned (.int .i64 m)∧Below w1 w1 w'):=fun w1 h=>CB.o w1 (by have:=Ry.o.below h;exact this)
 have NT:Below W1 W1 W1:=YJ _ _;clear nX JB uJ HMT c1 f1 c2 f2;have HLLEN:((T.ZJ n true).Zv n).length≤8:=Sa _ n 8;have IQ:Hid (∀ k,k<((T.ZJ n true).Zv n).length→(((T.ZJ n true).Zv n).take (k+1)).flatMap ((T.ZJ n true).Y0 n true)=(((T.ZJ n true).Zv n).take k).flatMap ((T.ZJ n true).Y0 n true)++(T.ZJ n true).Y0 n true (((T.ZJ n true).Zv n).getD k 0)):=fun k h=>MW _ h
 have mh:Hid (∀ k,k<((T.ZJ n true).Zv n).length→0≤(T.ZJ n true).Y9 (((T.ZJ n true).Zv n).getD k 0:Nat) n):=fun k h=>(Ka.1 (Gp h)).2.2
 have lY:Hid (∀ k,((((T.ZJ n true).Zv n).take k).flatMap ((T.ZJ n true).Y0 n true)).length≤16):=fun k=>by
  have h1:=OC (T.ZJ n true) n true (((T.ZJ n true).Zv n).take k);rw [S4] at h1;omega
 have HFP:Hid (∀ (p:Nat) (q:Nat) (hq:q<(T.ZJ n true).Z0.length),(T.ZJ n true).Y9 (p:Int) n=q→(T.ZJ n true).Y0 n true p=[⟨6,p,n,0,0⟩]):=fun p q hq e=>rfl
 have Ng:=trivial;generalize T.ZJ n true=T1 at *
 go_upto_region 2 with fail
 go_cut [] (fun wx=>ZL wx b T1∧Fr w (· = b) w wx)
 case first=>
  go_region_with ((go_at_call 49;(with_reducible refine (lK.o _ DM).mono ?_);rintro e V2 ⟨rfl,NJ⟩;have og:Below W1 W1 V2:=Heap.Below.call DM (Zw _) NJ;obtain ⟨v1,v2,v3⟩:=Vk.o _ og))
  all_goals
   obtain ⟨Nq,Gz⟩:=FR.o _ og;generalize V2.setCell ⟨g,m*4+3,none⟩ (.bool true)=W3 at *
   go_wp2_with fail
   go_meet;exact ⟨Nq,Gz⟩
 case rest=>
  obtain ⟨Nq,Gz⟩:=hcut;obtain ⟨W3,rfl⟩:∃ W3:World,W3=wc:=⟨_,rfl⟩;have yZ:=Zh Nq;have lZ:=Zh Gz;have oW:=Gz.size;have CH:=Zh (JY b T1 n W3 Nq);clear Nq Gz;generalize T1.Zv n=L at *
  generalize T1.Y0 n true=f at *
  go_wp2_with fail
  (with_reducible refine CH.o.mono ?_)
  rintro e w1 ⟨⟨lv,rfl,ZY⟩,YY⟩;have U':=Zh ZY;have JT:Hid (Fr w (· = b) w w1):=lZ.o.trans ((Fr.Z7 _ YY).mono oW (fun _ _ h=>h));have yX:=Zh (yZ.o.below YY);obtain ⟨la,wQ,rfl,-,-⟩:=id ZY;clear YY ZY CH lZ yZ;go_wp2_with fail
  go_loopw [7,33] (fun v i w'=>∃ k:Nat,k≤L.length∧i = .int .i64 k∧Fr w (· = b) w w'∧Row w' 3 (.slice la L.length wQ) L.length (ints L)∧ZL w' b T1∧w'.ownsRow w 158 5 v ((L.take k).flatMap f).length (((L.take k).flatMap f).flatMap Z9)) (fun _ i _=>L.length-(intOf i).toNat)
  case atStart=>exact ⟨0,Zo,rfl,JT.o,U'.o,yX.o,TY _ _ _ _⟩
  case round=>
   obtain ⟨k,hk,rfl,Wu,ZY,UX,YH⟩:=hrel;clear JT yX U';have T8:=Zh Wu;have U':=Zh ZY;have Vm:=Zh UX;have Yh:=Zh YH;have TR:=Wu.size;clear Wu YH UX;by_cases VK:k<L.length
   ·obtain ⟨gl,offl,capl,e1,Bh,Yu⟩:=Tb ZY Zo;cases e1;have hc:=Yu k VK;have HS:=Zh (IQ.o k VK);have zY:=mh.o k VK;have Bt:=lY.o k;obtain ⟨q,hq,My,IA,-⟩:=XI zY;have My:T1.Y9 (L.getD k 0:Nat) n=q:=My;have HP:=Zh (HFP.o (L.getD k 0) q hq My);have CA:=Zh (fun w1 (h:Below wr wr w1)=>Wv b T1 (L.getD k 0:Nat) n w1 (Vm.o.below h));rw [My] at CA;obtain ⟨pv,sv,uv,Yn,XJ⟩:=Vm.o.Vw;have UA:=XJ.Z0;have hlenU:=UA.len;have Bg:=cell_of Yn 2;obtain ⟨ua,LF,rfl,-,-⟩:=id UA;obtain ⟨gu,Tc,e2,yA⟩:=OE UA Zo;subst e2;obtain ⟨d0,d1,d2,d3⟩:=yA q T1.Z0[q] (Vb hq)
    have j_:gu<wr.heap.size:=by
     rcases Nat.lt_or_ge gu wr.heap.size with h|h
     ·exact h
     ·simp [World.cell?,E7 h] at d0
    have Ia:T1.Z0[q].source=n:=by simp at IA;exact IA.2
    have htriv:=trivial;have Gx:=Vm.o.lt;clear Yu ZY UA XJ Yn yA My IA zY HFP Ng;generalize T1.Z0[q]=x at *
    clear br;generalize T1.Z0.length=NU at *
    generalize L.getD k 0=p at *
    generalize (L.take k).flatMap f=G at *
    obtain ⟨x0,x1,x2,x3⟩:=x;dsimp only at d0 d1 d2 d3 Ia HP;subst Ia
    have Zz:Hid (∀ w',Below wr wr w'→w'.cell? ⟨b,2,none⟩=some (.slice (some ⟨gu,Tc,none⟩) NU LF)∧w'.cell? ⟨gu,Tc+q*4,none⟩=some (.int .i64 x0)∧w'.cell? ⟨gu,Tc+q*4+1,none⟩=some (.int .i64 x1)∧w'.cell? ⟨gu,Tc+q*4+2,none⟩=some (.int .i64 x2)∧w'.cell? ⟨gu,Tc+q*4+3,none⟩=some (.bool x3)∧Below wr wr w'):=fun w' h=>
     ⟨(h.cell (p:=⟨b,2,none⟩) Gx).trans Bg,(h.cell (p:=⟨gu,Tc+q*4,none⟩) j_).trans d0,(h.cell (p:=⟨gu,Tc+q*4+1,none⟩) j_).trans d1,(h.cell (p:=⟨gu,Tc+q*4+2,none⟩) j_).trans d2,(h.cell (p:=⟨gu,Tc+q*4+3,none⟩) j_).trans d3,h⟩
    have NT:Below wr wr wr:=YJ _ _;go_upto_region 7 with fail
    go_cut [] (fun wx=>Below wr wr wx)
    case first=>
     go_region_held3 (fun w'=>w'.cell? ⟨b,2,none⟩=some (.slice (some ⟨gu,Tc,none⟩) NU LF)∧w'.cell? ⟨gu,Tc+q*4,none⟩=some (.int .i64 x0)∧w'.cell? ⟨gu,Tc+q*4+1,none⟩=some (.int .i64 x1)∧w'.cell? ⟨gu,Tc+q*4+2,none⟩=some (.int .i64 x2)∧w'.cell? ⟨gu,Tc+q*4+3,none⟩=some (.bool x3)∧Below wr wr w') (first|(exact Zz.o _ WS)|(exact Zz.o _ (Below.drew WS))|(exact Zz.o _ (Heap.Below.alloc' WS (Zw _) _))|(exact Zz.o _ (Heap.Below.alloc' (Below.drew WS) (Zw _) _))|(exact Zz.o _ (Below.setCell (Below.setCell (Below.setCell (Below.setCell WS Zi _) Zi _) Zi _) Zi _))|(exact Zz.o _ (Below.setCell (Below.setCell (Below.setCell (Below.setCell (Below.drew WS) Zi _) Zi _) Zi _) Zi _))|go_keep) (first|(go_at_call 51;go_split_ands;(with_reducible refine Calls.mono (CA.o _ WS) ?_);rintro e w2 ⟨rfl,Y7⟩;have Yq:=Heap.Below.call WS (Zw _) Y7;obtain ⟨L_,Kb⟩:=SY Y7;have Sh:=Y7.size)|fail)
     all_goals
      clear NT;obtain ⟨-,-,-,-,-,NW⟩:= ‹_∧_∧_∧_∧_∧Below wr wr _›
      (go_wp2_with fail;go_meet;exact NW)
    case rest=>
     clear NT;have NW:=hcut;obtain ⟨W4,rfl⟩:∃ W4:World,W4=wc:=⟨_,rfl⟩;have aM:=Zh NW;have HO0:=Zh (Zx Yh.o NW);have H_:=NW.size;clear NW;go_wp2_with (at_builtin;refine YV rfl (.tmp 48) (.tmp 52) 98 rfl w.heap.size XM _ G.length (G.flatMap Z9) rfl (HO0.o.alloc _) _ 1 ([⟨6,p,x1,0,0⟩].flatMap Z9) rfl (Yr _ _ 1 _ ([⟨6,p,x1,0,0⟩].flatMap Z9) Zd Zi) rfl (X_ _) Zo Zo (PO TR (PO H_ Zi)) (fun v' w3 HO HG=>?_))
     go_roundw
     case rel=>
      have W8:=aM.o.alloc aM.o.size (.cells ([⟨6,p,x1,0,0⟩].flatMap Z9).toArray 158);have Sc:=Zx Yh.o W8;refine ⟨k+1,Zo,Zn,?_,?_,?_,?_⟩
      ·exact (T8.o.trans ((Fr.Z7 _ W8).mono TR (fun _ _ h=>h))).grown HG.o (PO TR W8.size) (YL Yh.o)
      ·exact Row.grown (U'.o.below W8) Sc HG.o Zd
      ·exact ZL.grown (Vm.o.below W8) Sc HG.o hb
      ·rw [HS.o,HP.o,UE,OQ];exact HO.o
     case measure=>simp [intOf];omega
   ·exact fY
theorem tK (b:Nat) (T:ZN) (n:Int) (w:World) (hR:ZL w b T) (Vl:T.Small) (hs:0≤T.YU n) (Ta:∀ x∈(T.ZJ n false).Z0,x.source=n→0≤(T.ZJ n false).YU n∧0≤x.want∧x.want<((T.ZJ n false).Wb n).ss.length) :
  Calls Tryz.prog 101 (Jh (some ⟨b,0,none⟩) n false) w fun e w'=>(∃ v,e = .returned v∧YF w' v (T.mute n false).1)∧ZL w' b (T.mute n false).2∧Fr w (· = b) w w':=by
 have hb:=hR.lt;obtain ⟨m,hm,O8,-,-⟩:=XI hs;have O8:T.YU n=m:=O8;have CB:=Zh (fun (w1:World) (h:ZL w1 b T)=>VW b T n w1 h);rw [O8] at CB;have qu:Hid (T.mute n false=(((T.ZJ n false).Zv n).flatMap ((T.ZJ n false).Y0 n false),T.ZJ n false)):=rfl;obtain ⟨pv,sv,uv,Yn,XJ⟩:=hR.Vw;obtain ⟨P,Tt,Sd,Uc⟩:=XJ.Yg;have MJ:m<P.length:=by rw [←Tt,TB] at hm;exact hm
 have Uw:=Vl.Yg;unfold small at Uw;have hPl:P.length≤100000:=by rw [←Tt,TB] at Uw;exact Uw
 have oV:∀ x∈P,∃ a n c,x.2 = .slice a n c:=fun x hx=>by obtain ⟨a,c,h,-,-⟩:=Uc x hx;exact ⟨a,_,c,h⟩
 have Bw:Hid (∀ u∈P.flatMap Zq,u.oneCell'=true):=Pr oV;have Bv:=Zh (SU P)
 have HMT:Hid (T.ZJ n false={T with Yg:=(P.set m ({P[m].1 with ZE:=false},P[m].2)).map Prod.fst}):=by
  show _=_;unfold ZN.ZJ ZN.Wb;rw [O8,Wz,List.map_set,Tt]
  congr 2
  rw [show T.Yg.getD m UG=P[m].1 by rw [←Tt,Uj MJ]]
 have QL:=Zh Sd;have BC:=Zh Uc;have HR:=Zh hR;have iH:=Zh Tt;have Mr:=Zh Vl;have qq:=Zh MJ;have c1:=cell_of Yn 1;have f1:=hR.Yz 1;obtain ⟨a,cap,rfl,O9,wq,-,-⟩:=id Sd;clear hR Vl hs O8 Yn XJ Sd Uc Tt Uw oV hm;go_enter Tryz.func101,Tryz.ntmps101;go_wp2_with (at_builtin;refine YV rfl (.const (.slice none 0 0)) (.tmp 15) 48 rfl w.heap.size UW (.slice none 0 0) 0 [] rfl (TY _ _ _ _) (.slice a P.length cap) P.length (P.flatMap Zq) rfl QL.o Bv.o Bw.o Zo Zo (Zw _) (fun v1 w2 rh HG=>?_);have HQ:Hid (w2.ownsRow w 108 4 v1 P.length (P.flatMap Zq)):=mU;clear rh;have Yq:Below w w w2:=(YJ _ _).grown HG.o (Zw _) (fun k hk=>by cases hk);have c2:=(Yq.cell (p:=⟨b,1,none⟩) hb).trans c1;have f2:=(Yq.frozen (p:=⟨b,1,none⟩) hb).trans f1;obtain ⟨g,cp,cur,hv,wC,JB⟩:=Pj HQ.o Zo;subst hv)
 have Ry:=Zh ((HR.o.below Yq).Ij P iH.o (Row.Z6 HQ.o) (fun x hx=>(BC.o x hx).below Yq));have K6:g≠b:=by omega
 have T9:=Zh (WG HQ.o ((Fr.refl w2.heap.size (· = b) w2).setAt 1 (.slice (some ⟨g,0,none⟩) P.length cp)) (fun k hk=>by omega));have Io:Hid (Fr w (· = b) w (w2.setCell ⟨b,1,none⟩ (.slice (some ⟨g,0,none⟩) P.length cp))):=(Fr.Z7 _ Yq).setAt _ _;have kp:(m:Int)<(P.length:Int):=OP.2 MJ;have sB:(0:Int)≤(m:Int):=qD m;have k1:(w2.setCell ⟨b,1,none⟩ (.slice (some ⟨g,0,none⟩) P.length cp)).cell? ⟨b,1,none⟩=some (.slice (some ⟨g,0,none⟩) P.length cp):=qC _ _ _ c2
 have j6:g<w2.heap.size:=by
  exact Yt9
 generalize nX:w2.setCell ⟨b,1,none⟩ (.slice (some ⟨g,0,none⟩) P.length cp)=W1 at *
 have QJ:W1.heap.size=w2.heap.size:=by rw [←nX,size_setCell]
 have y_:=Zh nX
 have uJ:W1.frozen? ⟨g,m*4+3,none⟩=false:=by
  have h:W1.heap[g]?=some (.cells cur 108):=by rw [←nX];simp [World.setCell,Array.getElem?_modify,K6.symm,JB]
  simp [World.frozen?,h]
 have wz:W1.heap[g]?=some (.cells cur 108):=by rw [←nX];simp [World.setCell,Array.getElem?_modify,K6.symm,JB]
 have wq:W1.cell? ⟨g,m*4+3,none⟩=some (.bool P[m].1.ZE):=by
  obtain ⟨g',off',e,hc⟩:=Sw (Row.Z6 T9.o) Zo;cases e;have:=(hc m P[m] (Vb MJ)).2.2.2
  rwa [QD] at this
 have Vk:Hid (∀ w',Below W1 W1 w'→w'.cell? ⟨b,1,none⟩=some (.slice (some ⟨g,0,none⟩) P.length cp)∧w'.cell? ⟨g,m*4+3,none⟩=some (.bool P[m].1.ZE)∧w'.frozen? ⟨g,m*4+3,none⟩=false):=fun w' h=>
  ⟨(h.cell (p:=⟨b,1,none⟩) (by dsimp only;rw [QJ];exact OS hb Yq.size)).trans k1,(h.cell (p:=⟨g,m*4+3,none⟩) T_).trans wq,(h.frozen (p:=⟨g,m*4+3,none⟩) T_).trans uJ⟩
 have dO:w.heap.size≤W1.heap.size:=by have:=Yq.size;omega
 have FR:Hid (∀ w',Below W1 W1 w'→ZL (w'.setCell ⟨g,m*4+3,none⟩ (.bool false)) b (T.ZJ n false)∧Fr w (· = b) w (w'.setCell ⟨g,m*4+3,none⟩ (.bool false))):=fun w' h=>by
  have hr:=Ry.o.below h;have hq:=Zx T9.o h;have hf:Fr w' (· = g) w' (w'.setCell ⟨g,m*4+3,none⟩ (.bool false)):=(Fr.refl _ _ _).setAt _ _
  have qJ:w'.heap[g]?=some (.cells cur 108):=by
   rw [h.block g Zo];exact wz
  have H':∀ e,108≠e→∀ k c fr,k=g→w'.heap[k]?≠some (.cells c e fr):=by
   intro e he k c fr hk;subst hk;rw [qJ];exact Uo he
  have Gx:=hr.lt;have wJ:=U8 hq Zo (i:=m*4+3) (.bool false);rw [Hn false P m MJ] at wJ;have gY:=Row.Z6 wJ;obtain ⟨pv',Bj,lJ,K5,sF,⟨ms',hJ,H9,Cq⟩,hu'⟩:=hr.Vw
  have oU:Bj = .slice (some ⟨g,0,none⟩) P.length cp:=by
   have h1:=cell_of K5 1;rw [(Vk.o w' h).1] at h1;simpa using h1.symm
  subst oU;refine ⟨⟨pv',.slice (some ⟨g,0,none⟩) P.length cp,lJ,by rw [hf.block b Gx (fun e=>K6 e.symm)];exact K5,?_⟩,(Io.o.trans ((Fr.Z7 (· = b) h).mono dO (fun _ _ h=>h))).setCell (Ws wC) _⟩;rw [HMT.o];refine ⟨sF.fr hf (Zw _) (H' _ Zd),⟨P.set m ({P[m].1 with ZE:=false},P[m].2),rfl,by rw [List.length_set];exact gY,?_⟩,hu'.fr hf (Zw _) (H' _ Zd)⟩;intro x hx;have oL:∀ x∈P,Row (w'.setCell ⟨g,m*4+3,none⟩ (.bool false)) 66 x.2 x.1.ss.length (YO x.1.ss):=fun x hx=>((((BC.o x hx).below Yq).fr ((Fr.refl w2.heap.size (· = b) w2).setAt 1 (.slice (some ⟨g,0,none⟩) P.length cp)) (Zw _) ((HR.o.below Yq).FO Zd)).fr (Fr.Z7 PN (by rw [y_.o];exact h)) (by rw [y_.o];exact Zw _) (fun _ _ _ h=>h.elim)).fr hf (Zw _) (H' _ Zd)
  rcases List.mem_or_eq_of_mem_set hx with hx|rfl
  ·exact oL x hx
  ·exact oL P[m] (PA MJ)
 have br:Hid (T.ZJ n false).Small:=⟨Mr.o.ZA,by unfold ZN.ZJ;dsimp only;rw [List.length_set];exact Mr.o.Yg,Mr.o.Z0⟩;have lK:Hid (∀ w1,Below W1 W1 w1→Calls Tryz.prog 49 (Qk (some ⟨b,0,none⟩) n) w1 fun e w'=>e = .returned (.int .i64 m)∧Below w1 w1 w'):=fun w1 h=>CB.o w1 (by have:=Ry.o.below h;exact this)
 have NT:Below W1 W1 W1:=YJ _ _;clear nX JB uJ HMT c1 f1 c2 f2;have HLLEN:((T.ZJ n false).Zv n).length≤8:=Sa _ n 8;have IQ:Hid (∀ k,k<((T.ZJ n false).Zv n).length→(((T.ZJ n false).Zv n).take (k+1)).flatMap ((T.ZJ n false).Y0 n false)=(((T.ZJ n false).Zv n).take k).flatMap ((T.ZJ n false).Y0 n false)++(T.ZJ n false).Y0 n false (((T.ZJ n false).Zv n).getD k 0)):=fun k h=>MW _ h
 have mh:Hid (∀ k,k<((T.ZJ n false).Zv n).length→0≤(T.ZJ n false).Y9 (((T.ZJ n false).Zv n).getD k 0:Nat) n):=fun k h=>(Ka.1 (Gp h)).2.2
 have lY:Hid (∀ k,((((T.ZJ n false).Zv n).take k).flatMap ((T.ZJ n false).Y0 n false)).length≤16):=fun k=>by
  have h1:=OC (T.ZJ n false) n false (((T.ZJ n false).Zv n).take k);rw [S4] at h1;omega
 have HFP:Hid (∀ (p:Nat) (q:Nat) (hq:q<(T.ZJ n false).Z0.length),(T.ZJ n false).Y9 (p:Int) n=q→(T.ZJ n false).Y0 n false p=⟨7,p,n,0,0⟩ :: (if (T.ZJ n false).Z0[q].ZQ then [] else [(T.ZJ n false).ask (T.ZJ n false).Z0[q]])):=fun p q hq e=>by
  unfold ZN.Y0 ZN.OD;rw [e,Wz,Ni hq];rfl
 have Ng:Hid (∀ x∈(T.ZJ n false).Z0,x.source=n→0≤(T.ZJ n false).YU n∧0≤x.want∧x.want<((T.ZJ n false).Wb n).ss.length):=Ta;generalize T.ZJ n false=T1 at *
 go_upto_region 2 with fail
 go_cut [] (fun wx=>ZL wx b T1∧Fr w (· = b) w wx)
 case first=>
  go_region_with ((go_at_call 49;(with_reducible refine (lK.o _ DM).mono ?_);rintro e V2 ⟨rfl,NJ⟩;have og:Below W1 W1 V2:=Heap.Below.call DM (Zw _) NJ;obtain ⟨v1,v2,v3⟩:=Vk.o _ og))
  all_goals
   obtain ⟨Nq,Gz⟩:=FR.o _ og;generalize V2.setCell ⟨g,m*4+3,none⟩ (.bool false)=W3 at *
   go_wp2_with fail
   go_meet;exact ⟨Nq,Gz⟩
 case rest=>
  obtain ⟨Nq,Gz⟩:=hcut;obtain ⟨W3,rfl⟩:∃ W3:World,W3=wc:=⟨_,rfl⟩;have yZ:=Zh Nq;have lZ:=Zh Gz;have oW:=Gz.size;have CH:=Zh (JY b T1 n W3 Nq);clear Nq Gz;generalize T1.Zv n=L at *
  generalize T1.Y0 n false=f at *
  go_wp2_with fail
  (with_reducible refine CH.o.mono ?_)
  rintro e w1 ⟨⟨lv,rfl,ZY⟩,YY⟩;have U':=Zh ZY;have JT:Hid (Fr w (· = b) w w1):=lZ.o.trans ((Fr.Z7 _ YY).mono oW (fun _ _ h=>h));have yX:=Zh (yZ.o.below YY);obtain ⟨la,wQ,rfl,-,-⟩:=id ZY;clear YY ZY CH lZ yZ;go_wp2_with fail
  go_loopw [7,33] (fun v i w'=>∃ k:Nat,k≤L.length∧i = .int .i64 k∧Fr w (· = b) w w'∧Row w' 3 (.slice la L.length wQ) L.length (ints L)∧ZL w' b T1∧w'.ownsRow w 158 5 v ((L.take k).flatMap f).length (((L.take k).flatMap f).flatMap Z9)) (fun _ i _=>L.length-(intOf i).toNat)
  case atStart=>exact ⟨0,Zo,rfl,JT.o,U'.o,yX.o,TY _ _ _ _⟩
  case round=>
   obtain ⟨k,hk,rfl,Wu,ZY,UX,YH⟩:=hrel;clear JT yX U';have T8:=Zh Wu;have U':=Zh ZY;have Vm:=Zh UX;have Yh:=Zh YH;have TR:=Wu.size;clear Wu YH UX;by_cases VK:k<L.length
   ·obtain ⟨gl,offl,capl,e1,Bh,Yu⟩:=Tb ZY Zo;cases e1;have hc:=Yu k VK;have HS:=Zh (IQ.o k VK);have zY:=mh.o k VK;have Bt:=lY.o k;obtain ⟨q,hq,My,IA,-⟩:=XI zY;have My:T1.Y9 (L.getD k 0:Nat) n=q:=My;have HP:=Zh (HFP.o (L.getD k 0) q hq My);have CA:=Zh (fun w1 (h:Below wr wr w1)=>Wv b T1 (L.getD k 0:Nat) n w1 (Vm.o.below h));rw [My] at CA;obtain ⟨pv,sv,uv,Yn,XJ⟩:=Vm.o.Vw;have UA:=XJ.Z0;have hlenU:=UA.len;have Bg:=cell_of Yn 2;obtain ⟨ua,LF,rfl,-,-⟩:=id UA;obtain ⟨gu,Tc,e2,yA⟩:=OE UA Zo;subst e2;obtain ⟨d0,d1,d2,d3⟩:=yA q T1.Z0[q] (Vb hq)
    have j_:gu<wr.heap.size:=by
     rcases Nat.lt_or_ge gu wr.heap.size with h|h
     ·exact h
     ·simp [World.cell?,E7 h] at d0
    have Ia:T1.Z0[q].source=n:=by simp at IA;exact IA.2
    have EZ:=Zh (fun w1 (h:ZL w1 b T1)=>by
     have hh:=Ng.o T1.Z0[q] (PA hq) Ia;have h1:=Hy b T1 T1.Z0[q] w1 h (by rw [Ia];exact hh.1) (by rw [Ia];exact hh.2);unfold V4 at h1
     exact h1)
    generalize T1.ask T1.Z0[q]=TA at *
    have Gx:=Vm.o.lt;clear Yu ZY UA XJ Yn yA My IA zY HFP Ng;generalize T1.Z0[q]=x at *
    clear br;generalize T1.Z0.length=NU at *
    generalize L.getD k 0=p at *
    generalize (L.take k).flatMap f=G at *
    obtain ⟨x0,x1,x2,x3⟩:=x;dsimp only at d0 d1 d2 d3 Ia HP EZ;subst Ia
    have Zz:Hid (∀ w',Below wr wr w'→w'.cell? ⟨b,2,none⟩=some (.slice (some ⟨gu,Tc,none⟩) NU LF)∧w'.cell? ⟨gu,Tc+q*4,none⟩=some (.int .i64 x0)∧w'.cell? ⟨gu,Tc+q*4+1,none⟩=some (.int .i64 x1)∧w'.cell? ⟨gu,Tc+q*4+2,none⟩=some (.int .i64 x2)∧w'.cell? ⟨gu,Tc+q*4+3,none⟩=some (.bool x3)∧Below wr wr w'):=fun w' h=>
     ⟨(h.cell (p:=⟨b,2,none⟩) Gx).trans Bg,(h.cell (p:=⟨gu,Tc+q*4,none⟩) j_).trans d0,(h.cell (p:=⟨gu,Tc+q*4+1,none⟩) j_).trans d1,(h.cell (p:=⟨gu,Tc+q*4+2,none⟩) j_).trans d2,(h.cell (p:=⟨gu,Tc+q*4+3,none⟩) j_).trans d3,h⟩
    have NT:Below wr wr wr:=YJ _ _;go_upto_region 7 with fail
    go_cut [10] (fun s10 wx=>∃ g5:Nat,s10 = .pointer (some ⟨g5,0,none⟩)∧(wx.cell? ⟨g5,0,none⟩=some (.int .i64 x0)∧wx.cell? ⟨g5,1,none⟩=some (.int .i64 x1)∧wx.cell? ⟨g5,2,none⟩=some (.int .i64 x2)∧wx.cell? ⟨g5,3,none⟩=some (.bool x3))∧wr.heap.size≤g5∧g5<wx.heap.size∧Below wr wr wx)
    case first=>
     go_region_held3 (fun w'=>w'.cell? ⟨b,2,none⟩=some (.slice (some ⟨gu,Tc,none⟩) NU LF)∧w'.cell? ⟨gu,Tc+q*4,none⟩=some (.int .i64 x0)∧w'.cell? ⟨gu,Tc+q*4+1,none⟩=some (.int .i64 x1)∧w'.cell? ⟨gu,Tc+q*4+2,none⟩=some (.int .i64 x2)∧w'.cell? ⟨gu,Tc+q*4+3,none⟩=some (.bool x3)∧Below wr wr w') (first|(exact Zz.o _ WS)|(exact Zz.o _ (Below.drew WS))|(exact Zz.o _ (Heap.Below.alloc' WS (Zw _) _))|(exact Zz.o _ (Heap.Below.alloc' (Below.drew WS) (Zw _) _))|(exact Zz.o _ (Below.setCell (Below.setCell (Below.setCell (Below.setCell WS Zi _) Zi _) Zi _) Zi _))|(exact Zz.o _ (Below.setCell (Below.setCell (Below.setCell (Below.setCell (Below.drew WS) Zi _) Zi _) Zi _) Zi _))|go_keep) (first|(go_at_call 51;go_split_ands;(with_reducible refine Calls.mono (CA.o _ WS) ?_);rintro e w2 ⟨rfl,Y7⟩;have Yq:=Heap.Below.call WS (Zw _) Y7;obtain ⟨L_,Kb⟩:=SY Y7;have Sh:=Y7.size)|fail)
     all_goals
      clear NT;obtain ⟨-,-,-,-,-,NW⟩:= ‹_∧_∧_∧_∧_∧Below wr wr _›
      (go_wp2_with fail;go_meet;first|exact ⟨_,rfl,⟨cell_of (Z8 w2 _) 0,cell_of (Z8 w2 _) 1,cell_of (Z8 w2 _) 2,cell_of (Z8 w2 _) 3⟩,Yq.size,by simp,NW⟩|exact ⟨_,rfl,set4 ((L_ _ _ Zi).trans (cell_of (Z8 _ _) 0)) ((L_ _ _ Zi).trans (cell_of (Z8 _ _) 1)) ((L_ _ _ Zi).trans (cell_of (Z8 _ _) 2)) ((L_ _ _ Zi).trans (cell_of (Z8 _ _) 3)),Zw _,by simp at Sh;simp;omega,NW⟩)
    case rest=>
     clear NT;obtain ⟨g5,rfl,⟨e0,e1,e2,e3⟩,cU,hg5b,NW⟩:=hcut;obtain ⟨W4,rfl⟩:∃ W4:World,W4=wc:=⟨_,rfl⟩;have aM:=Zh NW;have HO0:=Zh (Zx Yh.o NW);have H_:=NW.size;clear NW;have Dz:=Zh (aM.o.alloc aM.o.size (.cells ([⟨7,p,x1,0,0⟩].flatMap Z9).toArray 158));have qo:=Zh (fun (w3:World) (hg:(W4.alloc (.cells ([⟨7,p,x1,0,0⟩].flatMap Z9).toArray 158)).grownBy w3 _) (j:Nat)=>(r_ hg (ez Yh.o) cU Ug j).trans ((Z' W4 _).cell (p:=⟨g5,j,none⟩) hg5b));have HRG:=Zh (fun (w3:World) (hg:(W4.alloc (.cells ([⟨7,p,x1,0,0⟩].flatMap Z9).toArray 158)).grownBy w3 _)=>ZL.grown (Vm.o.below Dz.o) (Zx Yh.o Dz.o) hg hb);cases x3
     ·go_wp2_with (first|(at_builtin;refine YV rfl (.tmp 54) (.tmp 58) 98 rfl w.heap.size XM _ G.length (G.flatMap Z9) rfl (HO0.o.alloc _) _ 1 ([⟨7,p,x1,0,0⟩].flatMap Z9) rfl (Yr _ _ 1 _ ([⟨7,p,x1,0,0⟩].flatMap Z9) Zd Zi) rfl (X_ _) Zo Zo (PO TR (PO H_ Zi)) (fun v' w3 HO HG=>?_);have Fh:=HRG.o w3 HG.o;have e0':=(qo.o w3 HG.o 0).trans e0;have e1':=(qo.o w3 HG.o 1).trans e1;have e2':=(qo.o w3 HG.o 2).trans e2;have e3':=(qo.o w3 HG.o 3).trans e3;have pd:=HG.o.size)|(go_at_call 99;(with_reducible refine (EZ.o _ Fh).mono ?_);rintro e w5 ⟨rfl,MI⟩;have Rl:=Zh MI;have JG:=MI.size;clear MI)|(at_builtin;refine YV rfl (.tmp 63) (.tmp 67) 98 rfl w.heap.size XM _ (G++[YB.mk 7 p x1 0 0]).length ((G++[YB.mk 7 p x1 0 0]).flatMap Z9) rfl ?b1 _ 1 ([TA].flatMap Z9) rfl ?b2 rfl (X_ _) ?b5 ?b6 ?b7 (fun v' w6 IK yP=>?_)))
      case b1=>rw [UE,OQ];exact (Zx HO.o Rl.o).alloc _
      case b2=>exact Yr _ _ 1 _ ([TA].flatMap Z9) Zd rfl
      case b5=>rw [UE];simp;omega
      case b6=>rw [UE];simp;omega
      case b7=>simp at pd;simp;omega
      go_roundw
      case rel=>
       simp at pd;have jZ:=Rl.o.alloc Rl.o.size (.cells ([TA].flatMap Z9).toArray 158);have gU:=(Zx HO.o jZ);have g0:=T8.o.trans ((Fr.Z7 (· = b) Dz.o).mono TR (fun _ _ h=>h));have g1:=g0.grown HG.o Ug (YL Yh.o);have g2:=g1.trans ((Fr.Z7 (· = b) jZ).mono Zo (fun _ _ h=>h));refine ⟨k+1,Zo,Zn,?_,?_,?_,?_⟩
       ·exact g2.grown yP.o Ug (YL HO.o)
       ·exact Row.grown ((Row.grown (U'.o.below Dz.o) (Zx Yh.o Dz.o) HG.o Zd).below jZ) gU yP.o Zd
       ·exact ZL.grown ((HRG.o w3 HG.o).below jZ) gU yP.o hb
       ·rw [HS.o,HP.o,UE,OQ];have h6:=IK.o;rw [OQ,UE] at h6;simpa using h6
      case measure=>simp [intOf];omega
     ·go_wp2_with (at_builtin;refine YV rfl (.tmp 54) (.tmp 58) 98 rfl w.heap.size XM _ G.length (G.flatMap Z9) rfl (HO0.o.alloc _) _ 1 ([⟨7,p,x1,0,0⟩].flatMap Z9) rfl (Yr _ _ 1 _ ([⟨7,p,x1,0,0⟩].flatMap Z9) Zd Zi) rfl (X_ _) Zo Zo (PO TR (PO H_ Zi)) (fun v' w3 HO HG=>?_);have e3':=(qo.o w3 HG.o 3).trans e3)
      go_roundw
      case rel=>
       have Sc:=Zx Yh.o Dz.o;refine ⟨k+1,Zo,Zn,?_,?_,?_,?_⟩
       ·exact (T8.o.trans ((Fr.Z7 _ Dz.o).mono TR (fun _ _ h=>h))).grown HG.o (PO TR Dz.o.size) (YL Yh.o)
       ·exact Row.grown (U'.o.below Dz.o) Sc HG.o Zd
       ·exact HRG.o w3 HG.o
       ·rw [HS.o,HP.o,UE,OQ];exact HO.o
      case measure=>simp [intOf];omega
   ·exact fY
end Go.Proofs.Rm
