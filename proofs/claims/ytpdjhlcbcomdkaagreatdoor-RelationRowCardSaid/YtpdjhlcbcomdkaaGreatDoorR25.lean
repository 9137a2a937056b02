/- Part of a proof. -/
import Derived.Test.YtpdjhlcbcomdkaaGreatDoorR24
set_option linter.unusedVariables false
set_option linter.unusedSimpArgs false
set_option maxRecDepth 100000
set_option maxHeartbeats 16000000
open Go Go.Q Go.Qr
namespace Go.Proofs.By
open Go.RowKit Go.Proofs.Heap Go.Proofs
open Go.Proofs.Rm (YF YB Room ZT Z9 XM VT X_ YL Yr below_drewN)
def Vn (a:FI):List Value:=(Jt a)
def ZX (x:Zu):List Value:=(Qc x.peer x.source x.MR x.fin)
structure TP where
 p:KI
 d:FJ
 cv:Value
 ev:Value
 pv:Value
def Xo (x:TP):List Value:=V_ x.p x.d x.cv x.ev x.pv
theorem Oe:Elem Tryz.prog 37 35 4 32:=⟨Tryz.underlying37,⟨.agg (Qc 0 0 0 0),by kernel_rfl,rfl⟩,by decide⟩
theorem KR:Elem Tryz.prog 39 59 4 32:=⟨Tryz.underlying39,⟨.agg (Qc 0 0 0 0),by kernel_rfl,rfl⟩,by decide⟩
theorem KS:Elem Tryz.prog 114 97 15 136:=⟨Tryz.underlying114,⟨.agg UM,by kernel_rfl,rfl⟩,by decide⟩
theorem Wo {w:World} {base:Nat} {e:TypeId} {size:Nat} {v:Value} {n:Nat} {xs:List Value} (h:w.ownsRow base e size v n xs):∀ k,v.ownBlock=some k→∃ cur,w.heap[k]?=some (.cells cur e (0,0)):=by
 intro k hk;obtain ⟨_,h⟩:=h;rcases h with ⟨rfl,_⟩|⟨g,cap,cur,rfl,hg,hh,_⟩
 ·cases hk
 ·have hk:some g=some k:=hk;cases hk;exact ⟨cur,hh⟩
theorem Vh {w w':World} {b1 b2:Nat} {e1 e2:TypeId} {s1 s2:Nat} {v1 v2:Value} {n1 n2:Nat} {x1 x2:List Value} (h1:w.ownsRow b1 e1 s1 v1 n1 x1) (h2:w.ownsRow b2 e2 s2 v2 n2 x2) (he:e1≠e2) (hg:w.grownBy w' v2.ownBlock):w'.ownsRow b1 e1 s1 v1 n1 x1:=
 XQ h1 fun k hk=>by
  obtain ⟨cur,hc⟩:=Wo h1 k hk;exact hg.block k (ZW hc) (fun e=>Za h2 he _ _ _ e.symm hc)
structure WL (B:Nat) (w:World) (k:Nat) (cs:Array Value) (av:Value) (A:List FI) (mv:Value) (M:List TP) (lv:Value) (LS:List Zu):Prop where
 Y8:w.heap[k]?=some (.cells cs 116 (0,0))
 XC:w.ownsRow B 35 4 av A.length (A.flatMap Vn)
 Ld:w.ownsRow B 97 15 mv M.length (M.flatMap Xo)
 each:∀ x∈M,Vy w x.p x.cv x.ev x.pv
 P4:w.ownsRow B 59 4 lv LS.length (LS.flatMap ZX)
section
variable {B:Nat} {w w':World} {k:Nat} {cs:Array Value} {av:Value} {A:List FI} {mv:Value} {M:List TP} {lv:Value} {LS:List Zu}
theorem WL.below (h:WL B w k cs av A mv M lv LS) (hb:Below w w w'):WL B w' k cs av A mv M lv LS:=
 ⟨(hb.block _ (ZW h.Y8)).trans h.Y8,Yw h.XC hb,Yw h.Ld hb,fun x hx=>(h.each x hx).below hb,Yw h.P4 hb⟩
theorem Vy.yz {p:KI} {cv ev pv:Value} {S:Nat→Prop} (h:Vy w p cv ev pv) (hf:Fr w S w w') (h1:∀ k c fr,S k→w.heap[k]?≠some (.cells c 66 fr)) (h2:∀ k c fr,S k→w.heap[k]?≠some (.cells c 5 fr)):Vy w' p cv ev pv:=
 ⟨Row.fr h.c hf (Zw _) h1,Row.fr h.e hf (Zw _) h2,Row.fr h.p hf (Zw _) h2⟩
theorem WL.frA (h:WL B w k cs av A mv M lv LS) {S:Nat→Prop} (hf:Fr w S w w') (hS:∀ j,S j→∃ c t f,w.heap[j]?=some (.cells c t f)∧t≠116∧t≠35∧t≠97∧t≠59∧t≠66∧t≠5):WL B w' k cs av A mv M lv LS:=by
 have hn:∀ {j c e f},w.heap[j]?=some (.cells c e f)→(e=116∨e=35∨e=97∨e=59∨e=66∨e=5)→¬S j:=fun {j c e f} hj he hs=>by
  obtain ⟨c',t,f',h1,q1,q2,q3,q4,q5,q6⟩:=hS j hs;rw [hj] at h1;injection h1 with h1
  injection h1 with _ h1
  subst h1;rcases he with r|r|r|r|r|r
  ·exact q1 r
  ·exact q2 r
  ·exact q3 r
  ·exact q4 r
  ·exact q5 r
  ·exact q6 r
 refine ⟨(hf.block _ (ZW h.Y8) (hn h.Y8 Zi)).trans h.Y8,XQ h.XC fun j hj=>?_,XQ h.Ld fun j hj=>?_,fun x hx=>(h.each x hx).yz hf (fun j c f hs hj=>hn hj Zi hs) (fun j c f hs hj=>hn hj Zi hs),XQ h.P4 fun j hj=>?_⟩
 ·obtain ⟨cur,hc⟩:=Wo h.XC j hj;exact hf.block _ (ZW hc) (hn hc Zi)
 ·obtain ⟨cur,hc⟩:=Wo h.Ld j hj;exact hf.block _ (ZW hc) (hn hc Zi)
 ·obtain ⟨cur,hc⟩:=Wo h.P4 j hj;exact hf.block _ (ZW hc) (hn hc Zi)
theorem WL.Hd (h:WL B w k cs av A mv M lv LS) (o:Nat) (u:Value):WL B (w.setCell ⟨k,o,none⟩ u) k (cs.setIfInBounds o u) av A mv M lv LS:=by
 have hf:Fr w (· = k) w (w.setCell ⟨k,o,none⟩ u):=(Fr.refl _ _ _).setAt _ _
 have WK:∀ e,116≠e→∀ j c fr,j=k→w.heap[j]?≠some (.cells c e fr):=by
  intro e he j c fr hj hc;rw [hj,h.Y8] at hc;injection hc with hc
  injection hc with _ hc
  exact he hc
 have hb:∀ {v e s n xs},w.ownsRow B e s v n xs→116≠e→∀ j,v.ownBlock=some j→(w.setCell ⟨k,o,none⟩ u).heap[j]?=w.heap[j]?:=fun {v e s n xs} ho he j hj=>by
  obtain ⟨cur,hc⟩:=Wo ho j hj;exact MH w ⟨k,o,none⟩ _ j (fun e2=>WK e he j _ _ e2 hc)
 exact ⟨VH h.Y8 o u,XQ h.XC (hb h.XC Zd),XQ h.Ld (hb h.Ld Zd),fun x hx=>(h.each x hx).yz hf (WK _ Zd) (WK _ Zd),XQ h.P4 (hb h.P4 Zd)⟩
theorem WL.zN (h:WL B w k cs av A mv M lv LS) (hg:w.grownBy w' lv.ownBlock) {Cx:Value} {vG:List Zu} (ho:w'.ownsRow B 59 4 Cx vG.length (vG.flatMap ZX)):WL B w' k cs av A mv M Cx vG:=
 ⟨(hg.block _ (ZW h.Y8) (fun e=>Za h.P4 Zd _ _ _ e.symm h.Y8)).trans h.Y8,Vh h.XC h.P4 Zd hg,Vh h.Ld h.P4 Zd hg,fun x hx=>(h.each x hx).yz (XY hg) (Za h.P4 Zd) (Za h.P4 Zd),ho⟩
theorem WL.D7 (h:WL B w k cs av A mv M lv LS) (hg:w.grownBy w' av.ownBlock) {av':Value} {A':List FI} (ho:w'.ownsRow B 35 4 av' A'.length (A'.flatMap Vn)):WL B w' k cs av' A' mv M lv LS:=
 ⟨(hg.block _ (ZW h.Y8) (fun e=>Za h.XC Zd _ _ _ e.symm h.Y8)).trans h.Y8,ho,Vh h.Ld h.XC Zd hg,fun x hx=>(h.each x hx).yz (XY hg) (Za h.XC Zd) (Za h.XC Zd),Vh h.P4 h.XC Zd hg⟩
theorem WL.gh (h:WL B w k cs av A mv M lv LS) (hg:w.grownBy w' mv.ownBlock) {mv':Value} {M':List TP} (ho:w'.ownsRow B 97 15 mv' M'.length (M'.flatMap Xo)) (he:∀ x∈M',Vy w' x.p x.cv x.ev x.pv):WL B w' k cs av A mv' M' lv LS:=
 ⟨(hg.block _ (ZW h.Y8) (fun e=>Za h.Ld Zd _ _ _ e.symm h.Y8)).trans h.Y8,Vh h.XC h.Ld Zd hg,ho,he,Vh h.P4 h.Ld Zd hg⟩
theorem GS (at':Int):∀ (Q:List Zu) (m:Nat) (_:m<Q.length),(Q.flatMap ZX).set (m*4+3) (.int .i64 at')=(Q.set m {Q.getD m Wx with fin:=at'}).flatMap ZX
 | [],m,hm=>by simp at hm
 | x :: Q,0,_=>by simp [ZX]
 | x :: Q,m+1,hm=>by
  have ih:=GS at' Q m (by simpa using hm);rw [List.flatMap_cons,List.set_append_right _ _ (by show 4≤_;omega),List.set_cons_succ,List.flatMap_cons];have:(m+1)*4+3-(ZX x).length=m*4+3:=by show _-4=_;omega
  rw [this,ih];rfl
theorem WL.setL (h:WL B w k cs av A mv M lv LS) {g c m:Nat} (hv:lv = .slice (some ⟨g,0,none⟩) LS.length c) (hm:m<LS.length) (at':Int):WL B (w.setCell ⟨g,m*4+3,none⟩ (.int .i64 at')) k cs av A mv M lv (LS.set m {LS.getD m Wx with fin:=at'}):=by
 have hl:=h.P4;obtain ⟨cur,hc⟩:=Wo hl g (by rw [hv];rfl);have hf:Fr w (· = g) w (w.setCell ⟨g,m*4+3,none⟩ (.int .i64 at')):=(Fr.refl _ _ _).setAt _ _
 have WK:∀ e,59≠e→∀ j c fr,j=g→w.heap[j]?≠some (.cells c e fr):=by
  intro e he j c fr hj hx;rw [hj,hc] at hx;injection hx with hx
  injection hx with _ hx
  exact he hx
 have hb:∀ {v e s n xs},w.ownsRow B e s v n xs→59≠e→∀ j,v.ownBlock=some j→(w.setCell ⟨g,m*4+3,none⟩ (.int .i64 at')).heap[j]?=w.heap[j]?:=fun {v e s n xs} ho he j hj=>by
  obtain ⟨cu,yA⟩:=Wo ho j hj;exact MH w ⟨g,m*4+3,none⟩ _ j (fun e2=>WK e he j _ _ e2 yA)
 refine ⟨(MH w ⟨g,m*4+3,none⟩ _ k (fun e2=>WK _ Zd k _ _ e2 h.Y8)).trans h.Y8,XQ h.XC (hb h.XC Zd),XQ h.Ld (hb h.Ld Zd),fun x hx=>(h.each x hx).yz hf (WK _ Zd) (WK _ Zd),?_⟩;rw [hv] at hl ⊢;have h2:=Ph hl Zo (m*4+3) (.int .i64 at');rw [GS at' LS m hm] at h2;rw [List.length_set];exact h2
theorem WL.cells {oa:Option Addr} {n oc:Nat} {c1 c2 c3:Value} (h:WL B w k (Jd oa n oc c1 c2 c3) av A mv M lv LS):w.cell? ⟨k,0,none⟩=some (.slice oa n oc)∧w.cell? ⟨k,1,none⟩=some c1∧w.cell? ⟨k,2,none⟩=some c2∧w.cell? ⟨k,3,none⟩=some c3∧(∀ j,w.frozen? ⟨k,j,none⟩=false):=
 ⟨cell_of h.Y8 0,cell_of h.Y8 1,cell_of h.Y8 2,cell_of h.Y8 3,ZO h.Y8⟩
end
theorem uS {w:World} {g n c:Nat} {l:List Zu} {B:Nat} (h:w.ownsRow B 59 4 (.slice (some ⟨g,0,none⟩) n c) n (l.flatMap ZX)) {m:Nat} (hm:m<l.length):w.cell? ⟨g,m*4,none⟩=some (.int .i64 (l.getD m Wx).peer)∧w.cell? ⟨g,m*4+1,none⟩=some (.int .i64 (l.getD m Wx).source)∧w.cell? ⟨g,m*4+3,none⟩=some (.int .i64 (l.getD m Wx).fin):=by
 have yB:=XG ZX 4 (fun _=>rfl) l;obtain ⟨g',off,cap,h1,h2,h3,h4,h5⟩:=Row.open (Row.Z6 h) (by rw [yB];omega);injection h1 with e1 _ _
 cases e1;have hx:l[m]?=some (l.getD m Wx):=by rw [SC,Vb hm];rfl
 have hj:∀ j,j<4→w.cell? ⟨g,m*4+j,none⟩=(ZX (l.getD m Wx))[j]?:=fun j hj=>by
  have h6:=h5 (m*4+j) (by rw [yB];omega);rw [QD] at h6;rw [h6];exact MV ZX 4 (fun _=>rfl) l m j _ hx hj
 exact ⟨hj 0 Zo,hj 1 Zo,hj 3 Zo⟩
theorem Al (x:Zu):∀ u∈ZX x,u.oneCell'=true:=by
 intro u hu;simp only [ZX,KN,List.mem_nil_iff,or_false] at hu;rcases hu with rfl|rfl|rfl|rfl <;> rfl
theorem qR (B k:Nat) (oa:Option Addr) (n oc:Nat) (av mv:Value) (A:List FI) (M:List TP) (lv:Value) (LS:List Zu) (at':Int) (t:YB) (w:World)
  (h:WL B w k (Jd oa n oc av mv lv) av A mv M lv LS) (hB:B≤w.heap.size) (hl:LS.length≤100000000) :
  Calls Tryz.prog 85 (Ji (some ⟨k,0,none⟩) at' (Jw t)) w fun e w'=>e = .returned (.tuple #[]) ∧
   ∃ Cx,WL B w' k (Jd oa n oc av mv Cx) av A mv M Cx (X9 n at' LS t)∧Fr w (fun j=>j=k∨lv.ownBlock=some j) w w':=by
 have HX:Hid (X9 n at' LS t=if t.kind=1 then LS++[⟨t.peer,t.source,at',n⟩] else if t.kind=2 then Yc t.peer t.source at' LS LS.length else LS):=rfl;have V6:Hid (Below w w (w.alloc (.cells (Jw t) 158))):=Z' w _;have hz:=Z8 w (.cells (Jw t) 158);have H1:=Zh (h.below V6.o);obtain ⟨la,lc,oz,-⟩:=Row.Z6 h.P4;have HL:=Zh h.P4;subst oz;clear h;by_cases k1:t.kind=1
 ·have VA:Hid (X9 n at' LS t=LS++[⟨t.peer,t.source,at',n⟩]):=by show _=_;rw [HX.o,ZR k1]
  clear HX;generalize X9 n at' LS t=X at *
  obtain ⟨tk,tp,ts,ty,tx⟩:=t;dsimp only at k1 V6 hz H1 VA ⊢;subst k1;go_enter Tryz.func85,Tryz.ntmps85;go_upto_region 3 with fail
  have QJ:=hz;have hls:=ZW hz;generalize (w.alloc (.cells (Qh 1 tp ts ty tx) 158))=w1 at *
  have H1d:=Zh (H1.o.below (YJ _ _).drew);have dY:=((YJ w1.heap.size w1).drew.block _ hls).trans hz
  have Zz:Hid (∀ w':World,w'.heap[k]?=some (.cells #[.slice oa n oc,av,mv,.slice la LS.length lc] 116 (0,0))→w'.heap[w.heap.size]?=some (.cells (Qh 1 tp ts ty tx) 158 (0,0))→w'.cell? ⟨k,0,none⟩=some (.slice oa n oc)∧w'.cell? ⟨k,3,none⟩=some (.slice la LS.length lc)∧w'.cell? ⟨w,1,none⟩=some (.int .i64 tp)∧w'.cell? ⟨w,2,none⟩=some (.int .i64 ts)):=fun w' h1 h2=>
   ⟨Zc h1 0 rfl,Zc h1 3 rfl,Zc h2 1 rfl,Zc h2 2 rfl⟩
  refine SX ?_;refine Z_.Zy (d:=20) (S:=(fun w'=>w'.cell? ⟨k,0,none⟩=some (.slice oa n oc)∧w'.cell? ⟨k,3,none⟩=some (.slice la LS.length lc)∧w'.cell? ⟨w,1,none⟩=some (.int .i64 tp)∧w'.cell? ⟨w,2,none⟩=some (.int .i64 ts))) ZB ?_ (fun _=>?_)
  ·(try dsimp only)
   exact Zz.o _ H1d.o.Y8 dY
  refine YK 0 (h:=YK 1 (h:=YK 2 (h:=YK 3 (h:=YK 4 (h:=YK 5 (h:=YK 6 (h:=YK 7 (h:=YK 8 (h:=YK 9 (h:=YK 10 (h:=YK 11 (h:=YK 12 (h:=YK 13 (h:=YK 14 (h:=YK 15 (h:=?_))))))))))))))));refine YR 16 (h:=fun K hK=>?_);refine Xg Zr KR (.tmp 27) Zr (Qc tp ts at' (n:Int)) Zr Zr Zd ?_;have H2:=Zh (H1d.o.below (Z' w1.drew (.cells (Qc tp ts at' (n:Int)) 59)));have Sh:=((Z' w1.drew (.cells (Qc tp ts at' (n:Int)) 59)).block _ (ZW dY)).trans dY;refine Z_.Zb hK _ _ ?_ (fun _=>?_)
  ·exact mX
  clear hK K;try simp only [Z_.pt]
  refine YR 17 (h:=fun K hK=>?_);refine Zp Zr (.tmp 16) (.tmp 28) 39 Zr B KR (.slice la LS.length lc) LS.length (LS.flatMap ZX) Zr H2.o.P4 (.slice (some ⟨w1.drew.heap.size,0,none⟩) 1 1) 1 ([(⟨tp,ts,at',(n:Int)⟩:Zu)].flatMap ZX) Zr (Yr _ _ 1 _ ([(⟨tp,ts,at',(n:Int)⟩:Zu)].flatMap ZX) Zd rfl) rfl (U4 fun x _=>Al x) Zo Zo ?_ ?_
  ·show B≤(w1.drew.heap.push _).size;rw [OI];have:=V6.o.size;show B≤w1.heap.size+1;omega
  intro v' w6 HO HG;have NH:Hid (w6.ownsRow B 59 4 v' (LS++[(⟨tp,ts,at',(n:Int)⟩:Zu)]).length ((LS++[(⟨tp,ts,at',(n:Int)⟩:Zu)]).flatMap ZX)):=iZ;obtain ⟨na,nc,NK,-⟩:=Row.Z6 NH.o;subst NK;have H3:=Zh (H2.o.zN HG.o NH.o);obtain ⟨q0,q1,q2,q3,q4⟩:=H3.o.cells;have q43:=q4 3;have pd:=(HG.o.block _ (ZW Sh) (fun e=>Za H2.o.P4 Zd _ _ _ e.symm Sh)).trans Sh;refine Z_.Zb hK _ _ ?_ (fun _=>?_)
  ·exact mX
  clear hK K;try simp only [Z_.pt]
  refine YR 18 (h:=fun K hK=>?_);go_simp;refine Z_.Zb hK _ _ ?_ (fun _=>?_)
  ·exact mX
  clear hK K;try simp only [Z_.pt]
  refine YK 19 (h:=?_);refine YR 20 (h:=fun K hK=>?_);go_simp;refine Z_.Yk hK _ _ ZB ?_;clear hK K;try simp only [Z_.pt]
  refine Z_.YC ZB ?_ _;refine RA ?_;go_wp2_with fail
  first|refine bodyPost_end (results_none Zr _ _ _) rfl ?_|refine VD (results_none Zr _ _ _) rfl ?_
  have qL:(LS++[(⟨tp,ts,at',(n:Int)⟩:Zu)]).length=LS.length+1:=by simp
  have h3:=H3.o.Hd 3 (.slice na (LS.length+1) nc);rw [qL] at h3;refine ⟨rfl,.slice na (LS.length+1) nc,by rw [VA.o];exact h3,?_⟩;have f1:Fr w (fun j=>j=k∨(Value.slice la LS.length lc).ownBlock=some j) w w1.drew:=Fr.Z7 _ V6.o.drew;have f2:=(f1.alloc V6.o.size (.cells (Qc tp ts at' (n:Int)) 59));have f3:Fr w (fun j=>j=k∨(Value.slice la LS.length lc).ownBlock=some j) w w6:=f2.trans ((XY HG.o).mono f2.size (fun _ _ h=>Wh h));exact f3.setCell (p:=⟨k,3,none⟩) (Wh (Ws rfl)) _
 by_cases k2:t.kind=2
 rotate_left
 ·have VA:Hid (X9 n at' LS t=LS):=by show _=_;rw [HX.o,Z4 k1,Z4 k2]
  clear HX;generalize X9 n at' LS t=X at *
  have e1:(t.kind == 1)=false:=by rw [WR];exact k1
  have e2:(t.kind == 2)=false:=by rw [WR];exact k2
  go_enter Tryz.func85,Tryz.ntmps85;go_wp2_with fail
  first|refine bodyPost_end (results_none Zr _ _ _) rfl ?_|refine VD (results_none Zr _ _ _) rfl ?_
  exact ⟨rfl,_,by rw [VA.o];exact H1.o,Fr.Z7 _ V6.o⟩
 have VA:Hid (X9 n at' LS t=Yc t.peer t.source at' LS LS.length):=by show _=_;rw [HX.o,Z4 k1,ZR k2]
 clear HX;generalize X9 n at' LS t=X at *
 obtain ⟨tk,tp,ts,ty,tx⟩:=t;dsimp only at k1 k2 V6 hz H1 VA ⊢;subst k2;clear k1;have Tn:=H1.o.cells;obtain ⟨q0,q1,q2,q3,q4⟩:=Tn;have hw5:IntKind.i64.wrap ((LS.length:Int)-1)=(LS.length:Int)-1:=Tm _ Zo;go_enter Tryz.func85,Tryz.ntmps85;go_wp2_with fail
 go_loopw [6] (fun s6 w'=>∃ m:Nat,m≤LS.length∧s6 = .int .i64 ((m:Int)-1)∧Hid (Yc tp ts at' LS LS.length=Yc tp ts at' LS m)∧Below w w w'∧Below (w.alloc (.cells (Qh 2 tp ts ty tx) 158)).heap.size (w.alloc (.cells (Qh 2 tp ts ty tx) 158)) w') (fun s6 _=>(intOf s6+1).toNat)
 case atStart=>exact ⟨LS.length,Zw _,rfl,rfl,V6.o,YJ _ _⟩
 case round=>
  obtain ⟨m,hm,rfl,HE,VX,uD⟩:=hrel;have Sy:=Zh VX;have HBEL2:=Zh uD;have HR:=Zh (H1.o.below uD);have hzr:=(uD.block _ (ZW hz)).trans hz;have t1:wr.cell? ⟨w,1,none⟩=some (.int .i64 tp):=Zc hzr 1 rfl;have t2:wr.cell? ⟨w,2,none⟩=some (.int .i64 ts):=Zc hzr 2 rfl;obtain ⟨r0,r1,r2,r3,r4⟩:=HR.o.cells;have ud:=Zh (Yw HL.o (Sy.o));clear VX uD q0 q1 q2 q3 q4;cases m with
  | zero=>
   have MO:Hid (X=LS):=by show _=_;rw [VA.o,HE.o];rfl
   clear HE VA;go_wp2;first|refine bodyPost_end (results_none Zr _ _ _) rfl ?_|refine VD (results_none Zr _ _ _) rfl ?_
   exact ⟨rfl,_,by rw [MO.o];exact HR.o,Fr.Z7 _ Sy.o⟩
  | succ q=>
   have hq1:((q+1:Nat):Int)-1=(q:Int):=by omega
   rw [hq1];have dF:(q:Int)<(LS.length:Int):=by omega
   obtain ⟨g,c9,cur,e9,-,JB⟩:=Mk ud.o Zo;cases e9;obtain ⟨y0,y1,y3⟩:=uS ud.o (m:=q) Zo;have fz:wr.frozen? ⟨g,q*4+3,none⟩=false:=ZO JB _;have HQ:=Zh (fun (w':World) (hb:Below wr wr w')=>(HR.o.below hb).setL rfl (m:=q) Zo at');have E1:Hid (Yc tp ts at' LS (q+1)=if (LS.getD q Wx).peer=tp∧(LS.getD q Wx).source=ts then LS.set q {LS.getD q Wx with fin:=at'} else Yc tp ts at' LS q):=rfl;have hqw:IntKind.i64.wrap ((q:Int)-1)=(q:Int)-1:=Tm _ Zo;generalize (LS.getD q Wx).peer=lp at *
   generalize (LS.getD q Wx).source=ls at *
   by_cases hp:lp=tp
   ·by_cases hs:ls=ts
    ·have MO:Hid (X=LS.set q {LS.getD q Wx with fin:=at'}):=by show _=_;rw [VA.o,HE.o,E1.o,ZR ⟨hp,hs⟩]
     subst hp;subst hs;clear HE E1 VA;go_upto_region 9 with fail
     go_quiet (fail)
     go_wp2;first|refine bodyPost_end (results_none Zr _ _ _) rfl ?_|refine VD (results_none Zr _ _ _) rfl ?_
     exact ⟨rfl,⟨_,by rw [MO.o];exact HQ.o _ (below_drewN (YJ _ _) _)⟩,(Fr.Z7 _ (below_drewN Sy.o _)).setCell (p:=⟨g,q*4+3,none⟩) (Wh (Wh rfl)) _⟩
    ·have aR:Hid (Yc tp ts at' LS LS.length=Yc tp ts at' LS q):=by show _=_;rw [HE.o,E1.o,Z4 (fun h=>hs h.2)]
     have e1:(ls == ts)=false:=by rw [WR];exact hs
     subst hp;exact fR
   ·have aR:Hid (Yc tp ts at' LS LS.length=Yc tp ts at' LS q):=by show _=_;rw [HE.o,E1.o,Z4 (fun h=>hp h.1)]
    have e1:(lp == tp)=false:=by rw [WR];exact hp
    exact fR
open Go.WideShapes Go.ChangeShapes Go.Proofs.Mem Go.Deep
open Go.Proofs.Rm (OpV Xi YO VV ET M8 KO seven NG Op)
structure Xf (w:World) (v:Value) (L:List V7):Prop where
 row:XR w v L.length (L.flatMap fun y=>Xi y.x)
 each:∀ y∈L,XR w (.slice y.x.sa y.x.o.ZK.length y.x.sc) y.x.o.ZK.length (YO y.x.o.ZK)∧X6 w (.slice y.x.ba y.x.bl y.x.bc) y.b∧y.x.o.name.length<9223372036854775807
theorem Xf.below {w w':World} {v:Value} {L:List V7} (h:Xf w v L) (hb:Below w w w'):Xf w' v L:=⟨h.row.below hb,fun y hy=>⟨(h.each y hy).1.below hb,(h.each y hy).2.1.below hb,(h.each y hy).2.2⟩⟩
section
variable {H:Type} {enc:TypeId × Value→H} {W:World} {base:Nat} {sp:Nat→Bool} {held:Bool}
theorem qg {z:Int} (h:(Lit.int .u8 z).wf=true):0≤z∧z<256:=by
 have h:=(UR _ _).mp h;have h1:=of_decide_eq_true h.1;have h2:=of_decide_eq_true h.2;have e1:IntKind.min .u8=0:=by decide
 have e2:IntKind.max .u8=255:=by decide
 omega
theorem p9 {fuel:Nat} {v:Value} {x:DataW H × List MemPlace} (h:DataW.trod enc Tryz.prog W base sp held fuel 30 [v]=some x):∃ (l:List UInt8) (a:Option Addr) (n c:Nat),v = .slice a n c∧X6 W (.slice a n c) l:=by
 rcases open_slice1 Tryz.underlying30 ZB h with ⟨hc,_⟩|⟨a,len,cap,m,n,V,D,Pl,Tn,hb,hl,hm,dt,_,hx⟩
 ·exact ⟨[],none,0,0,by simpa using hc,XR.nil _⟩
 ·have Ef:len≤m:=by rw [dt];split <;> omega
  have hv:v = .slice (some a) len cap:=by simpa using Tn
  have key:∀ i,i<len→∃ z:UInt8,W.cell? (a.add i)=some (.int .u8 (z.toNat:Int))∧V i = .int .u8 (z.toNat:Int):=by
   intro i hi;obtain ⟨h1,h2⟩:=hx i Zo;obtain ⟨z,hz,_,hwf⟩:=DataW.trod_int Tryz.underlying5 h2;obtain ⟨r0,r1⟩:=qg hwf;have hz:V i = .int .u8 z:=by simpa using hz
   have e:((UInt8.ofNat z.toNat).toNat:Int)=z:=by
    rw [UInt8.toNat_ofNat'];omega
   exact ⟨UInt8.ofNat z.toNat,by rw [h1,hz,e],by rw [hz,e]⟩
  let l:List UInt8:=(List.range len).map fun i=>match V i with | .int _ z=>UInt8.ofNat z.toNat|_=>0
  have wH:l.length=len:=by simp [l]
  refine ⟨l,some a,len,cap,hv,some a,cap,by rw [wH],by rw [wH];exact hl,hm,(fun h=>by cases h),?_⟩;by_cases h0:len=0
  ·exact Ws (BN (by rw [Xh,wH];exact h0))
  ·obtain ⟨z0,uO,_⟩:=key 0 Zo;have o_:W.cell? a=some (.int .u8 (z0.toNat:Int)):=by unfold Addr.add at uO;simpa using uO
   have ha:=M8 o_;refine Wh ⟨a.block,a.off,by rw [←ha],World.block_lt_of_cell? W a o_,fun j hj=>?_⟩;rw [Xh,wH] at hj;obtain ⟨z,hz,hV⟩:=key j hj;rw [←KO ha,hz]
   have hlj:l[j]?=some z:=by
    have e:UInt8.ofNat z.toNat=z:=by simp
    simp [l,hj,hV]
   simp only [RD,List.getElem?_map,hlj,Option.map_some]
theorem p8 {fuel:Nat} {cs:List Value} {x:DataW H × List MemPlace} (h:DataW.trod enc Tryz.prog W base sp held fuel 32 cs=some x) :
  ∃ y:V7,cs=Xi y.x∧(XR W (.slice y.x.sa y.x.o.ZK.length y.x.sc) y.x.o.ZK.length (YO y.x.o.ZK)∧X6 W (.slice y.x.ba y.x.bl y.x.bc) y.b)∧y.x.o.name.length∈x.1.weights Tryz.prog 32:=by
 obtain ⟨xs,n,_,qO,hlen,hxl,hf⟩:=DataW.trod_struct Tryz.underlying32 h;have hC:Tryz.prog.cellsOf 32=7:=by kernel_rfl
 have k1:Tryz.prog.cellsOf 3=1:=by kernel_rfl
 have k2:Tryz.prog.cellsOf 9=1:=by kernel_rfl
 have k3:Tryz.prog.cellsOf 29=1:=by kernel_rfl
 have k4:Tryz.prog.cellsOf 30=1:=by kernel_rfl
 rw [hC] at hlen;obtain ⟨c0,c1,c2,c3,c4,c5,c6,rfl⟩:∃ c0 c1 c2 c3 c4 c5 c6,cs=[c0,c1,c2,c3,c4,c5,c6]:=seven hlen;clear h hC;have hx:∀ j,j<7→∃ y,xs[j]?=some y:=fun j hj=>⟨xs[j]'(by rw [hxl];exact hj),Vb _⟩
 obtain ⟨y0,e0⟩:=hx 0 Zo;obtain ⟨y1,e1⟩:=hx 1 Zo;obtain ⟨y2,e2⟩:=hx 2 Zo;obtain ⟨y3,e3⟩:=hx 3 Zo;obtain ⟨y4,e4⟩:=hx 4 Zo;obtain ⟨y5,e5⟩:=hx 5 Zo;obtain ⟨y6,e6⟩:=hx 6 Zo;have h0:DataW.trod enc Tryz.prog W base sp held n 3 (([c0,c1,c2,c3,c4,c5,c6].drop 0).take (Tryz.prog.cellsOf 3))=some y0:=(hf 0 _ rfl).trans e0;have h1:DataW.trod enc Tryz.prog W base sp held n 3 (([c0,c1,c2,c3,c4,c5,c6].drop 1).take (Tryz.prog.cellsOf 3))=some y1:=(hf 1 _ rfl).trans e1;have h2:DataW.trod enc Tryz.prog W base sp held n 3 (([c0,c1,c2,c3,c4,c5,c6].drop 2).take (Tryz.prog.cellsOf 3))=some y2:=(hf 2 _ rfl).trans e2;have h3:DataW.trod enc Tryz.prog W base sp held n 3 (([c0,c1,c2,c3,c4,c5,c6].drop 3).take (Tryz.prog.cellsOf 3))=some y3:=(hf 3 _ rfl).trans e3;have h4:DataW.trod enc Tryz.prog W base sp held n 9 (([c0,c1,c2,c3,c4,c5,c6].drop 4).take (Tryz.prog.cellsOf 9))=some y4:=(hf 4 _ rfl).trans e4;have h5:DataW.trod enc Tryz.prog W base sp held n 29 (([c0,c1,c2,c3,c4,c5,c6].drop 5).take (Tryz.prog.cellsOf 29))=some y5:=(hf 5 _ rfl).trans e5;have h6:DataW.trod enc Tryz.prog W base sp held n 30 (([c0,c1,c2,c3,c4,c5,c6].drop 6).take (Tryz.prog.cellsOf 30))=some y6:=(hf 6 _ rfl).trans e6;rw [k1] at h0 h1 h2 h3;rw [k2] at h4;rw [k3] at h5;rw [k4] at h6;obtain ⟨z0,g0,_⟩:=DataW.trod_int Tryz.underlying3 h0;obtain ⟨z1,g1,_⟩:=DataW.trod_int Tryz.underlying3 h1
 obtain ⟨z2,g2,_⟩:=DataW.trod_int Tryz.underlying3 h2;obtain ⟨z3,g3,_⟩:=DataW.trod_int Tryz.underlying3 h3;obtain ⟨s4,g4,gy4,hs4⟩:=DataW.trod_string Tryz.underlying9 h4;obtain ⟨l5,a5,n5,g5,hr5⟩:=ET (v:=c5) h5;obtain ⟨b6,a6,l6,n6,g6,hr6⟩:=p9 (v:=c6) h6;have g0:c0 = .int .i64 z0:=by simpa using g0
 have g1:c1 = .int .i64 z1:=by simpa using g1
 have g2:c2 = .int .i64 z2:=by simpa using g2
 have g3:c3 = .int .i64 z3:=by simpa using g3
 have g4:c4 = .string s4:=by simpa using g4
 refine ⟨⟨⟨⟨z0,z1,z2,z3,s4.data.toList,l5⟩,a5,n5,a6,l6,n6⟩,b6⟩,?_,⟨hr5,hr6⟩,?_⟩
 ·rw [g0,g1,g2,g3,g4,g5,g6];simp only [Xi,eF]
 ·exact Yx97
theorem sX {t:TypeId} {v:Value} {d:DataW H} {ps:List MemPlace} (ht:Tryz.prog.underlying t=some (.slice 32)) (L_:v.cells=#[v]) (h:DataW.Trod enc Tryz.prog W base sp held t v d ps) (hz:∀ n∈d.weights Tryz.prog t,n≤reachBytes):∃ l,Xf W v l:=by
 obtain ⟨fuel,h⟩:=h;rw [L_] at h;have hC:Tryz.prog.cellsOf 32=7:=by kernel_rfl
 rcases open_slice ht h with ⟨hc,_⟩|⟨a,len,cap,m,n,D,Pl,Tn,hb,hl,hm,dt,cN,hx⟩
 ·have:v = .slice none 0 0:=by simpa using hc
  subst this;exact ⟨[],XR.nil _,fun x hx=>by simp at hx⟩
 ·have Ef:len≤m:=by rw [dt];split <;> omega
  have hv:v = .slice (some a) len cap:=by simpa using Tn
  subst hv
  have key:∀ i,∃ y:V7,i<len→(∀ j,j<7→W.cell? ((a.add (i*7)).add j)=(Xi y.x)[j]?)∧(XR W (.slice y.x.sa y.x.o.ZK.length y.x.sc) y.x.o.ZK.length (YO y.x.o.ZK)∧X6 W (.slice y.x.ba y.x.bl y.x.bc) y.b∧y.x.o.name.length<9223372036854775807):=by
   intro i;by_cases hi:i<len
   ·obtain ⟨cs',h1,h2⟩:=hx i Zo;rw [hC] at h1;obtain ⟨_,hcl',VQ⟩:=World.cells?_some h1;obtain ⟨y,hy,⟨hr,M0⟩,hn⟩:=p8 h2
    have dv:y.x.o.name.length<9223372036854775807:=by
     have hd:d = .slice ((List.range len).map D) ((List.range (m-len)).map fun j=>D (len+j)):=by injection cN
     have:=hz y.x.o.name.length (by
      rw [hd];unfold DataW.weights;rw [ht]
      refine List.mem_cons_of_mem _ (DN.2 (Ws (NG (vO.2 ⟨i,by simpa using hi,rfl⟩) _ hn))))
     have:=Nat.lt_of_le_of_lt this reachBytes_lt;omega
    refine ⟨y,fun _=>⟨fun j hj=>?_,hr,M0,dv⟩⟩;have:=VQ j hj;rw [←hy,this]
   ·exact ⟨⟨⟨⟨0,0,0,0,[],[]⟩,none,0,none,0,0⟩,[]⟩,fun h=>absurd h hi⟩
  obtain ⟨Y,hY⟩:=Classical.axiomOfChoice key
  let l:List V7:=(List.range len).map Y
  have wH:l.length=len:=by simp [l]
  refine ⟨l,⟨some a,cap,by rw [wH],by rw [wH];exact hl,hm,(fun h=>by cases h),?_⟩,?_⟩
  ·by_cases h0:len=0
   ·exact Ws (by rw [BN (wH.trans h0)];rfl)
   ·have hz:=(hY 0 Zo).1 0 Zo;have uO:W.cell? a=some (.int .i64 (Y 0).x.o.kind):=by simpa [Addr.add,Xi] using hz
    have ha:=M8 uO;refine Wh ⟨a.block,a.off,by rw [←ha],World.block_lt_of_cell? W a uO,fun j hj=>?_⟩;have yB:(l.flatMap fun y=>Xi y.x).length=len*7:=by rw [XG (fun y:V7=>Xi y.x) 7 (fun _=>rfl),wH]
    rw [yB] at hj;have hi:j / 7<len:=by omega
    have hli:l[j / 7]?=some (Y (j / 7)):=by simp [l,hi]
    have:=MV (fun y:V7=>Xi y.x) 7 (fun _=>rfl) l (j / 7) (j % 7) _ hli Zo;exact Yx112
  ·intro x hx;obtain ⟨i,hi,rfl⟩:=vO.1 hx;exact (hY i (by simpa using hi)).2
end
end Go.Proofs.By
