/- Part of a proof. -/
import Derived.Test.YtpdjhlcbcomdkaaGreatDoorW24
set_option linter.unusedVariables false
set_option linter.unusedSimpArgs false
set_option maxRecDepth 100000
set_option maxHeartbeats 16000000
open Go Go.Q Go.Qr
namespace Go.Proofs.By
open Go.RowKit Go.Proofs.Heap Go.Proofs
open Go.Proofs.Rm (YG YD Room ZT Z9 XP VZ Yc YL Yu below_drewN)
def WE (a:FZ):List Value:=(Jq a)
def ZY (x:Zq):List Value:=(Qe x.peer x.source x.Kf x.fin)
structure TW where
 p:KZ
 d:F3
 cv:Value
 ev:Value
 pv:Value
def Xr (x:TW):List Value:=VN x.p x.d x.cv x.ev x.pv
theorem Oz:Elem Tryz.prog 37 35 4 32:=⟨Tryz.underlying37,⟨.agg (Qe 0 0 0 0),by kernel_rfl,rfl⟩,by decide⟩
theorem K8:Elem Tryz.prog 39 59 4 32:=⟨Tryz.underlying39,⟨.agg (Qe 0 0 0 0),by kernel_rfl,rfl⟩,by decide⟩
theorem K9:Elem Tryz.prog 114 97 15 136:=⟨Tryz.underlying114,⟨.agg UW,by kernel_rfl,rfl⟩,by decide⟩
theorem Wq {w:World} {base:Nat} {e:TypeId} {size:Nat} {v:Value} {n:Nat} {xs:List Value} (h:w.ownsRow base e size v n xs):∀ k,v.ownBlock=some k→∃ cur,w.heap[k]?=some (.cells cur e (0,0)):=by
 intro k hk
 obtain ⟨_,h⟩:=h
 rcases h with ⟨rfl,_⟩|⟨g,cap,cur,rfl,hg,hh,_⟩
 ·cases hk
 ·have hk:some g=some k:=hk
  cases hk
  exact ⟨cur,hh⟩
theorem Vn {w w':World} {b1 b2:Nat} {e1 e2:TypeId} {s1 s2:Nat} {v1 v2:Value} {n1 n2:Nat} {x1 x2:List Value} (h1:w.ownsRow b1 e1 s1 v1 n1 x1) (h2:w.ownsRow b2 e2 s2 v2 n2 x2) (he:e1≠e2) (hg:w.grownBy w' v2.ownBlock):w'.ownsRow b1 e1 s1 v1 n1 x1:=
 XS h1 fun k hk=>by
  obtain ⟨cur,hc⟩:=Wq h1 k hk
  exact hg.block k (ZV hc) (fun e=>Zf h2 he _ _ _ e.symm hc)
structure WN (B:Nat) (w:World) (k:Nat) (cs:Array Value) (av:Value) (A:List FZ) (mv:Value) (M:List TW) (lv:Value) (LS:List Zq):Prop where
 Za:w.heap[k]?=some (.cells cs 116 (0,0))
 XE:w.ownsRow B 35 4 av A.length (A.flatMap WE)
 Lz:w.ownsRow B 97 15 mv M.length (M.flatMap Xr)
 each:∀ x∈M,Vt w x.p x.cv x.ev x.pv
 QS:w.ownsRow B 59 4 lv LS.length (LS.flatMap ZY)
section
variable {B:Nat} {w w':World} {k:Nat} {cs:Array Value} {av:Value} {A:List FZ} {mv:Value} {M:List TW} {lv:Value} {LS:List Zq}
theorem WN.below (h:WN B w k cs av A mv M lv LS) (hb:Below w w w'):WN B w' k cs av A mv M lv LS:=
 ⟨(hb.block _ (ZV h.Za)).trans h.Za,Yx h.XE hb,Yx h.Lz hb,fun x hx=>(h.each x hx).below hb,Yx h.QS hb⟩
theorem Vt.yR {p:KZ} {cv ev pv:Value} {S:Nat→Prop} (h:Vt w p cv ev pv) (hf:Fr w S w w') (h1:∀ k c fr,S k→w.heap[k]?≠some (.cells c 66 fr)) (h2:∀ k c fr,S k→w.heap[k]?≠some (.cells c 5 fr)):Vt w' p cv ev pv:=
 ⟨Row.fr h.c hf (Zw _) h1,Row.fr h.e hf (Zw _) h2,Row.fr h.p hf (Zw _) h2⟩
theorem WN.frA (h:WN B w k cs av A mv M lv LS) {S:Nat→Prop} (hf:Fr w S w w') (hS:∀ j,S j→∃ c t f,w.heap[j]?=some (.cells c t f)∧t≠116∧t≠35∧t≠97∧t≠59∧t≠66∧t≠5):WN B w' k cs av A mv M lv LS:=by
 have hn:∀ {j c e f},w.heap[j]?=some (.cells c e f)→(e=116∨e=35∨e=97∨e=59∨e=66∨e=5)→¬S j:=fun {j c e f} hj he hs=>by
  obtain ⟨c',t,f',h1,q1,q2,q3,q4,q5,q6⟩:=hS j hs
  rw [hj] at h1
  injection h1 with h1
  injection h1 with _ h1
  subst h1
  rcases he with r|r|r|r|r|r
  ·exact q1 r
  ·exact q2 r
  ·exact q3 r
  ·exact q4 r
  ·exact q5 r
  ·exact q6 r
 refine ⟨(hf.block _ (ZV h.Za) (hn h.Za Zi)).trans h.Za,XS h.XE fun j hj=>?_,XS h.Lz fun j hj=>?_,fun x hx=>(h.each x hx).yR hf (fun j c f hs hj=>hn hj Zi hs) (fun j c f hs hj=>hn hj Zi hs),XS h.QS fun j hj=>?_⟩
 ·obtain ⟨cur,hc⟩:=Wq h.XE j hj
  exact hf.block _ (ZV hc) (hn hc Zi)
 ·obtain ⟨cur,hc⟩:=Wq h.Lz j hj
  exact hf.block _ (ZV hc) (hn hc Zi)
 ·obtain ⟨cur,hc⟩:=Wq h.QS j hj
  exact hf.block _ (ZV hc) (hn hc Zi)
theorem WN.Hs (h:WN B w k cs av A mv M lv LS) (o:Nat) (u:Value):WN B (w.setCell ⟨k,o,none⟩ u) k (cs.setIfInBounds o u) av A mv M lv LS:=by
 have hf:Fr w (· = k) w (w.setCell ⟨k,o,none⟩ u):=(Fr.refl _ _ _).setAt _ _
 have WM:∀ e,116≠e→∀ j c fr,j=k→w.heap[j]?≠some (.cells c e fr):=by
  intro e he j c fr hj hc
  rw [hj,h.Za] at hc
  injection hc with hc
  injection hc with _ hc
  exact he hc
 have hb:∀ {v e s n xs},w.ownsRow B e s v n xs→116≠e→∀ j,v.ownBlock=some j→(w.setCell ⟨k,o,none⟩ u).heap[j]?=w.heap[j]?:=fun {v e s n xs} ho he j hj=>by
  obtain ⟨cur,hc⟩:=Wq ho j hj
  exact MW w ⟨k,o,none⟩ _ j (fun e2=>WM e he j _ _ e2 hc)
 exact ⟨VM h.Za o u,XS h.XE (hb h.XE Zd),XS h.Lz (hb h.Lz Zd),fun x hx=>(h.each x hx).yR hf (WM _ Zd) (WM _ Zd),XS h.QS (hb h.QS Zd)⟩
theorem WN.Ad (h:WN B w k cs av A mv M lv LS) (hg:w.grownBy w' lv.ownBlock) {Dk:Value} {vY:List Zq} (ho:w'.ownsRow B 59 4 Dk vY.length (vY.flatMap ZY)):WN B w' k cs av A mv M Dk vY:=
 ⟨(hg.block _ (ZV h.Za) (fun e=>Zf h.QS Zd _ _ _ e.symm h.Za)).trans h.Za,Vn h.XE h.QS Zd hg,Vn h.Lz h.QS Zd hg,fun x hx=>(h.each x hx).yR (XZ hg) (Zf h.QS Zd) (Zf h.QS Zd),ho⟩
theorem WN.Ej (h:WN B w k cs av A mv M lv LS) (hg:w.grownBy w' av.ownBlock) {av':Value} {A':List FZ} (ho:w'.ownsRow B 35 4 av' A'.length (A'.flatMap WE)):WN B w' k cs av' A' mv M lv LS:=
 ⟨(hg.block _ (ZV h.Za) (fun e=>Zf h.XE Zd _ _ _ e.symm h.Za)).trans h.Za,ho,Vn h.Lz h.XE Zd hg,fun x hx=>(h.each x hx).yR (XZ hg) (Zf h.XE Zd) (Zf h.XE Zd),Vn h.QS h.XE Zd hg⟩
theorem WN.hH (h:WN B w k cs av A mv M lv LS) (hg:w.grownBy w' mv.ownBlock) {mv':Value} {M':List TW} (ho:w'.ownsRow B 97 15 mv' M'.length (M'.flatMap Xr)) (he:∀ x∈M',Vt w' x.p x.cv x.ev x.pv):WN B w' k cs av A mv' M' lv LS:=
 ⟨(hg.block _ (ZV h.Za) (fun e=>Zf h.Lz Zd _ _ _ e.symm h.Za)).trans h.Za,Vn h.XE h.Lz Zd hg,ho,he,Vn h.QS h.Lz Zd hg⟩
theorem G' (at':Int):∀ (Q:List Zq) (m:Nat) (_:m<Q.length),(Q.flatMap ZY).set (m*4+3) (.int .i64 at')=(Q.set m {Q.getD m Wz with fin:=at'}).flatMap ZY
 | [],m,hm=>by simp at hm
 | x :: Q,0,_=>by simp [ZY]
 | x :: Q,m+1,hm=>by
  have ih:=G' at' Q m (by simpa using hm)
  rw [List.flatMap_cons,List.set_append_right _ _ (by show 4≤_;omega),List.set_cons_succ,List.flatMap_cons]
  have:(m+1)*4+3-(ZY x).length=m*4+3:=by show _-4=_;omega
  rw [this,ih]
  rfl
theorem WN.setL (h:WN B w k cs av A mv M lv LS) {g c m:Nat} (hv:lv = .slice (some ⟨g,0,none⟩) LS.length c) (hm:m<LS.length) (at':Int):WN B (w.setCell ⟨g,m*4+3,none⟩ (.int .i64 at')) k cs av A mv M lv (LS.set m {LS.getD m Wz with fin:=at'}):=by
 have hl:=h.QS
 obtain ⟨cur,hc⟩:=Wq hl g (by rw [hv];rfl)
 have hf:Fr w (· = g) w (w.setCell ⟨g,m*4+3,none⟩ (.int .i64 at')):=(Fr.refl _ _ _).setAt _ _
 have WM:∀ e,59≠e→∀ j c fr,j=g→w.heap[j]?≠some (.cells c e fr):=by
  intro e he j c fr hj hx
  rw [hj,hc] at hx
  injection hx with hx
  injection hx with _ hx
  exact he hx
 have hb:∀ {v e s n xs},w.ownsRow B e s v n xs→59≠e→∀ j,v.ownBlock=some j→(w.setCell ⟨g,m*4+3,none⟩ (.int .i64 at')).heap[j]?=w.heap[j]?:=fun {v e s n xs} ho he j hj=>by
  obtain ⟨cu,yT⟩:=Wq ho j hj
  exact MW w ⟨g,m*4+3,none⟩ _ j (fun e2=>WM e he j _ _ e2 yT)
 refine ⟨(MW w ⟨g,m*4+3,none⟩ _ k (fun e2=>WM _ Zd k _ _ e2 h.Za)).trans h.Za,XS h.XE (hb h.XE Zd),XS h.Lz (hb h.Lz Zd),fun x hx=>(h.each x hx).yR hf (WM _ Zd) (WM _ Zd),?_⟩
 rw [hv] at hl ⊢
 have h2:=PA hl Zo (m*4+3) (.int .i64 at')
 rw [G' at' LS m hm] at h2
 rw [List.length_set]
 exact h2
theorem WN.cells {oa:Option Addr} {n oc:Nat} {c1 c2 c3:Value} (h:WN B w k (Jc oa n oc c1 c2 c3) av A mv M lv LS):w.cell? ⟨k,0,none⟩=some (.slice oa n oc)∧w.cell? ⟨k,1,none⟩=some c1∧w.cell? ⟨k,2,none⟩=some c2∧w.cell? ⟨k,3,none⟩=some c3∧(∀ j,w.frozen? ⟨k,j,none⟩=false):=
 ⟨cell_of h.Za 0,cell_of h.Za 1,cell_of h.Za 2,cell_of h.Za 3,ZO h.Za⟩
end
theorem vr {w:World} {g n c:Nat} {l:List Zq} {B:Nat} (h:w.ownsRow B 59 4 (.slice (some ⟨g,0,none⟩) n c) n (l.flatMap ZY)) {m:Nat} (hm:m<l.length):w.cell? ⟨g,m*4,none⟩=some (.int .i64 (l.getD m Wz).peer)∧w.cell? ⟨g,m*4+1,none⟩=some (.int .i64 (l.getD m Wz).source)∧w.cell? ⟨g,m*4+3,none⟩=some (.int .i64 (l.getD m Wz).fin):=by
 have yU:=XK ZY 4 (fun _=>rfl) l
 obtain ⟨g',off,cap,h1,h2,h3,h4,h5⟩:=Row.open (Row.Z6 h) (by rw [yU];omega)
 injection h1 with e1 _ _
 cases e1
 have hx:l[m]?=some (l.getD m Wz):=by rw [Rw,U7 hm];rfl
 have hj:∀ j,j<4→w.cell? ⟨g,m*4+j,none⟩=(ZY (l.getD m Wz))[j]?:=fun j hj=>by
  have h6:=h5 (m*4+j) (by rw [yU];omega)
  rw [QP] at h6
  rw [h6]
  exact M_ ZY 4 (fun _=>rfl) l m j _ hx hj
 exact ⟨hj 0 Zo,hj 1 Zo,hj 3 Zo⟩
theorem AH (x:Zq):∀ u∈ZY x,u.oneCell'=true:=by
 intro u hu
 simp only [ZY,Mg,List.mem_nil_iff,or_false] at hu
 rcases hu with rfl|rfl|rfl|rfl <;> rfl
theorem rH (B k:Nat) (oa:Option Addr) (n oc:Nat) (av mv:Value) (A:List FZ) (M:List TW) (lv:Value) (LS:List Zq) (at':Int) (t:YD) (w:World)
  (h:WN B w k (Jc oa n oc av mv lv) av A mv M lv LS) (hB:B≤w.heap.size) (hl:LS.length≤100000000) :
  Calls Tryz.prog 85 (Jh (some ⟨k,0,none⟩) at' (Ju t)) w fun e w'=>e = .returned (.tuple #[]) ∧
   ∃ Dk,WN B w' k (Jc oa n oc av mv Dk) av A mv M Dk (Yb n at' LS t)∧Fr w (fun j=>j=k∨lv.ownBlock=some j) w w':=by
 have HX:Hid (Yb n at' LS t=if t.kind=1 then LS++[⟨t.peer,t.source,at',n⟩] else if t.kind=2 then Yg t.peer t.source at' LS LS.length else LS):=rfl
 have VQ:Hid (Below w w (w.alloc (.cells (Ju t) 158))):=Z' w _
 have hz:=Z7 w (.cells (Ju t) 158)
 have H1:=Zh (h.below VQ.o)
 obtain ⟨la,lc,pj,-⟩:=Row.Z6 h.QS
 have HL:=Zh h.QS
 subst pj
 clear h
 by_cases k1:t.kind=1
 ·have Vs:Hid (Yb n at' LS t=LS++[⟨t.peer,t.source,at',n⟩]):=by show _=_;rw [HX.o,ZQ k1]
  clear HX
  generalize Yb n at' LS t=X at *
  obtain ⟨tk,tp,ts,ty,tx⟩:=t
  dsimp only at k1 VQ hz H1 Vs ⊢
  subst k1
  go_enter Tryz.func85,Tryz.ntmps85
  go_upto_region 3 with fail
  have QV:=hz
  have hls:=ZV hz
  generalize (w.alloc (.cells (Qh 1 tp ts ty tx) 158))=w1 at *
  have H1d:=Zh (H1.o.below (YH _ _).drew)
  have eY:=((YH w1.heap.size w1).drew.block _ hls).trans hz
  have Zz:Hid (∀ w':World,w'.heap[k]?=some (.cells #[.slice oa n oc,av,mv,.slice la LS.length lc] 116 (0,0))→w'.heap[w.heap.size]?=some (.cells (Qh 1 tp ts ty tx) 158 (0,0))→w'.cell? ⟨k,0,none⟩=some (.slice oa n oc)∧w'.cell? ⟨k,3,none⟩=some (.slice la LS.length lc)∧w'.cell? ⟨w,1,none⟩=some (.int .i64 tp)∧w'.cell? ⟨w,2,none⟩=some (.int .i64 ts)):=fun w' h1 h2=>
   ⟨Zc h1 0 rfl,Zc h1 3 rfl,Zc h2 1 rfl,Zc h2 2 rfl⟩
  refine Sd ?_
  refine Z_.Zu (d:=20) (S:=(fun w'=>w'.cell? ⟨k,0,none⟩=some (.slice oa n oc)∧w'.cell? ⟨k,3,none⟩=some (.slice la LS.length lc)∧w'.cell? ⟨w,1,none⟩=some (.int .i64 tp)∧w'.cell? ⟨w,2,none⟩=some (.int .i64 ts))) ZB ?_ (fun _=>?_)
  ·(try dsimp only)
   exact Zz.o _ H1d.o.Za eY
  refine YK 0 (h:=YK 1 (h:=YK 2 (h:=YK 3 (h:=YK 4 (h:=YK 5 (h:=YK 6 (h:=YK 7 (h:=YK 8 (h:=YK 9 (h:=YK 10 (h:=YK 11 (h:=YK 12 (h:=YK 13 (h:=YK 14 (h:=YK 15 (h:=?_))))))))))))))))
  refine YR 16 (h:=fun K hK=>?_)
  refine Xk Zr K8 (.tmp 27) Zr (Qe tp ts at' (n:Int)) Zr Zr Zd ?_
  have H2:=Zh (H1d.o.below (Z' w1.drew (.cells (Qe tp ts at' (n:Int)) 59)))
  have Sr:=((Z' w1.drew (.cells (Qe tp ts at' (n:Int)) 59)).block _ (ZV eY)).trans eY
  refine Z_.Y_ hK _ _ ?_ (fun _=>?_)
  ·exact nP
  clear hK K
  try simp only [Z_.pt]
  refine YR 17 (h:=fun K hK=>?_)
  refine Zp Zr (.tmp 16) (.tmp 28) 39 Zr B K8 (.slice la LS.length lc) LS.length (LS.flatMap ZY) Zr H2.o.QS (.slice (some ⟨w1.drew.heap.size,0,none⟩) 1 1) 1 ([(⟨tp,ts,at',(n:Int)⟩:Zq)].flatMap ZY) Zr (Yu _ _ 1 _ ([(⟨tp,ts,at',(n:Int)⟩:Zq)].flatMap ZY) Zd rfl) rfl (U' fun x _=>AH x) Zo Zo ?_ ?_
  ·show B≤(w1.drew.heap.push _).size;rw [O6];have:=VQ.o.size;show B≤w1.heap.size+1;omega
  intro v' w6 HO HG
  have NV:Hid (w6.ownsRow B 59 4 v' (LS++[(⟨tp,ts,at',(n:Int)⟩:Zq)]).length ((LS++[(⟨tp,ts,at',(n:Int)⟩:Zq)]).flatMap ZY)):=jK
  obtain ⟨na,nc,NZ,-⟩:=Row.Z6 NV.o
  subst NZ
  have H3:=Zh (H2.o.Ad HG.o NV.o)
  obtain ⟨q0,q1,q2,q3,q4⟩:=H3.o.cells
  have q43:=q4 3
  have pW:=(HG.o.block _ (ZV Sr) (fun e=>Zf H2.o.QS Zd _ _ _ e.symm Sr)).trans Sr
  refine Z_.Y_ hK _ _ ?_ (fun _=>?_)
  ·exact nP
  clear hK K
  try simp only [Z_.pt]
  refine YR 18 (h:=fun K hK=>?_)
  go_simp
  refine Z_.Y_ hK _ _ ?_ (fun _=>?_)
  ·exact nP
  clear hK K
  try simp only [Z_.pt]
  refine YK 19 (h:=?_)
  refine YR 20 (h:=fun K hK=>?_)
  go_simp
  refine Z_.Ye hK _ _ ZB ?_
  clear hK K
  try simp only [Z_.pt]
  refine Z_.Yr ZB ?_ _
  refine QY ?_
  go_wp2_with fail
  first|refine bodyPost_end (results_none Zr _ _ _) rfl ?_|refine VJ (results_none Zr _ _ _) rfl ?_
  have rB:(LS++[(⟨tp,ts,at',(n:Int)⟩:Zq)]).length=LS.length+1:=by simp
  have h3:=H3.o.Hs 3 (.slice na (LS.length+1) nc)
  rw [rB] at h3
  refine ⟨rfl,.slice na (LS.length+1) nc,by rw [Vs.o];exact h3,?_⟩
  have f1:Fr w (fun j=>j=k∨(Value.slice la LS.length lc).ownBlock=some j) w w1.drew:=Fr.Z8 _ VQ.o.drew
  have f2:=(f1.alloc VQ.o.size (.cells (Qe tp ts at' (n:Int)) 59))
  have f3:Fr w (fun j=>j=k∨(Value.slice la LS.length lc).ownBlock=some j) w w6:=f2.trans ((XZ HG.o).mono f2.size (fun _ _ h=>Wi h))
  exact f3.setCell (p:=⟨k,3,none⟩) (Wi (Ww rfl)) _
 by_cases k2:t.kind=2
 rotate_left
 ·have Vs:Hid (Yb n at' LS t=LS):=by show _=_;rw [HX.o,Z4 k1,Z4 k2]
  clear HX
  generalize Yb n at' LS t=X at *
  have e1:(t.kind == 1)=false:=by rw [WQ];exact k1
  have e2:(t.kind == 2)=false:=by rw [WQ];exact k2
  go_enter Tryz.func85,Tryz.ntmps85
  go_wp2_with fail
  first|refine bodyPost_end (results_none Zr _ _ _) rfl ?_|refine VJ (results_none Zr _ _ _) rfl ?_
  exact ⟨rfl,_,by rw [Vs.o];exact H1.o,Fr.Z8 _ VQ.o⟩
 have Vs:Hid (Yb n at' LS t=Yg t.peer t.source at' LS LS.length):=by show _=_;rw [HX.o,Z4 k1,ZQ k2]
 clear HX
 generalize Yb n at' LS t=X at *
 obtain ⟨tk,tp,ts,ty,tx⟩:=t
 dsimp only at k1 k2 VQ hz H1 Vs ⊢
 subst k2
 clear k1
 have Tz:=H1.o.cells
 obtain ⟨q0,q1,q2,q3,q4⟩:=Tz
 have hw5:IntKind.i64.wrap ((LS.length:Int)-1)=(LS.length:Int)-1:=Ty _ Zo
 go_enter Tryz.func85,Tryz.ntmps85
 go_wp2_with fail
 go_loopw [6] (fun s6 w'=>∃ m:Nat,m≤LS.length∧s6 = .int .i64 ((m:Int)-1)∧Hid (Yg tp ts at' LS LS.length=Yg tp ts at' LS m)∧Below w w w'∧Below (w.alloc (.cells (Qh 2 tp ts ty tx) 158)).heap.size (w.alloc (.cells (Qh 2 tp ts ty tx) 158)) w') (fun s6 _=>(intOf s6+1).toNat)
 case atStart=>exact ⟨LS.length,Zw _,rfl,rfl,VQ.o,YH _ _⟩
 case round=>
  obtain ⟨m,hm,rfl,HE,Wn,uX⟩:=hrel
  have SG:=Zh Wn
  have HBEL2:=Zh uX
  have HR:=Zh (H1.o.below uX)
  have hzr:=(uX.block _ (ZV hz)).trans hz
  have t1:wr.cell? ⟨w,1,none⟩=some (.int .i64 tp):=Zc hzr 1 rfl
  have t2:wr.cell? ⟨w,2,none⟩=some (.int .i64 ts):=Zc hzr 2 rfl
  obtain ⟨r0,r1,r2,r3,r4⟩:=HR.o.cells
  have uD:=Zh (Yx HL.o (SG.o))
  clear Wn uX q0 q1 q2 q3 q4
  cases m with
  | zero=>
   have M5:Hid (X=LS):=by show _=_;rw [Vs.o,HE.o];rfl
   clear HE Vs
   go_wp2
   first|refine bodyPost_end (results_none Zr _ _ _) rfl ?_|refine VJ (results_none Zr _ _ _) rfl ?_
   exact ⟨rfl,_,by rw [M5.o];exact HR.o,Fr.Z8 _ SG.o⟩
  | succ q=>
   have hq1:((q+1:Nat):Int)-1=(q:Int):=by omega
   rw [hq1]
   have hqI:(q:Int)<(LS.length:Int):=by omega
   obtain ⟨g,c9,cur,e9,-,JM⟩:=My uD.o Zo
   cases e9
   obtain ⟨y0,y1,y3⟩:=vr uD.o (m:=q) Zo
   have fz:wr.frozen? ⟨g,q*4+3,none⟩=false:=ZO JM _
   have HQ:=Zh (fun (w':World) (hb:Below wr wr w')=>(HR.o.below hb).setL rfl (m:=q) Zo at')
   have Fg:Hid (Yg tp ts at' LS (q+1)=if (LS.getD q Wz).peer=tp∧(LS.getD q Wz).source=ts then LS.set q {LS.getD q Wz with fin:=at'} else Yg tp ts at' LS q):=rfl
   have hqw:IntKind.i64.wrap ((q:Int)-1)=(q:Int)-1:=Ty _ Zo
   generalize (LS.getD q Wz).peer=lp at *
   generalize (LS.getD q Wz).source=ls at *
   by_cases hp:lp=tp
   ·by_cases hs:ls=ts
    ·have M5:Hid (X=LS.set q {LS.getD q Wz with fin:=at'}):=by show _=_;rw [Vs.o,HE.o,Fg.o,ZQ ⟨hp,hs⟩]
     subst hp;subst hs
     clear HE Fg Vs
     go_upto_region 9 with fail
     go_quiet (fail)
     go_wp2
     first|refine bodyPost_end (results_none Zr _ _ _) rfl ?_|refine VJ (results_none Zr _ _ _) rfl ?_
     exact ⟨rfl,⟨_,by rw [M5.o];exact HQ.o _ (below_drewN (YH _ _) _)⟩,(Fr.Z8 _ (below_drewN SG.o _)).setCell (p:=⟨g,q*4+3,none⟩) (Wi (Wi rfl)) _⟩
    ·have bN:Hid (Yg tp ts at' LS LS.length=Yg tp ts at' LS q):=by show _=_;rw [HE.o,Fg.o,Z4 (fun h=>hs h.2)]
     have e1:(ls == ts)=false:=by rw [WQ];exact hs
     subst hp
     exact gJ
   ·have bN:Hid (Yg tp ts at' LS LS.length=Yg tp ts at' LS q):=by show _=_;rw [HE.o,Fg.o,Z4 (fun h=>hp h.1)]
    have e1:(lp == tp)=false:=by rw [WQ];exact hp
    exact gJ
def WV (b:List UInt8):Nat:=if at8 b 0 / 16 % 2=1 then 12+4*(at8 b 0 % 16)+4+4*get b (((12+4*(at8 b 0 % 16):Nat):Int)+2) 2 else 12+4*(at8 b 0 % 16)
def Uk (b:List UInt8):Nat:=if at8 b 0 / 16 % 2=1 then 12+4*(at8 b 0 % 16)+4 else 12+4*(at8 b 0 % 16)
def Tm (b:List UInt8):Nat:=if at8 b 0 / 32 % 2=1 then at8 b (b.length-1) else 0
def Dv (b:List UInt8):KZ × Int:=
  if 512<b.length then (WU,5)
  else if b.length<12 then (WU,2)
  else if at8 b 0<128∨191<at8 b 0 then (WU,1)
  else if 192≤at8 b 1∧at8 b 1≤223 then (WU,4)
  else if b.length<12+4*(at8 b 0 % 16) then (WU,2)
  else if at8 b 0 / 16 % 2=1∧b.length<12+4*(at8 b 0 % 16)+4 then (WU,2)
  else if b.length<WV b then (WU,2)
  else if at8 b 0 / 32 % 2=1∧(WV b=b.length∨at8 b (b.length-1)=0∨b.length-WV b<at8 b (b.length-1)) then (WU,1)
  else if at8 b 0 / 32 % 2=1∧¬(((b.drop (b.length-at8 b (b.length-1))).take (at8 b (b.length-1)-1)).all (fun x=>decide (x=0))=true) then (WU,1)
  else (TN b (Uk b,WV b,b.length-Tm b),0)
theorem om (b:List UInt8) (k i:Nat):at8 (b.drop k) i=at8 b (k+i):=by
  unfold at8
  rw [Rw,Rw,List.getElem?_drop]
theorem x9 (b:List UInt8):YM b=Dv b:=by
  unfold YM Dv
  have e0:looks b=if 512<b.length then ((0,0,0),5)
    else if b.length<12 then ((0,0,0),2)
    else if at8 b 0 / 64≠2 then ((0,0,0),1)
    else if 192≤at8 b 1∧at8 b 1≤223 then ((0,0,0),4)
    else if (Vv b (12+4*(at8 b 0 % 16))).2=false then ((0,0,0),2)
    else if (Sb b (b.drop (Vv b (12+4*(at8 b 0 % 16))).1.2)).2=false then ((0,0,0),1) else (((Vv b (12+4*(at8 b 0 % 16))).1.1,(Vv b (12+4*(at8 b 0 % 16))).1.2,b.length-(Sb b (b.drop (Vv b (12+4*(at8 b 0 % 16))).1.2)).1),0):=rfl
  rw [e0]
  by_cases h1:512<b.length
  · simp only [ZQ h1];rfl
  simp only [Z4 h1]
  by_cases h2:b.length<12
  · simp only [ZQ h2];rfl
  simp only [Z4 h2]
  have hb:=(show at8 b 0<256 by unfold at8;exact (b.getD 0 0).toNat_lt)
  by_cases h3:at8 b 0<128∨191<at8 b 0
  · simp only [ZQ h3,ZQ (show at8 b 0 / 64≠2 by omega)];rfl
  simp only [Z4 h3,Z4 (show ¬at8 b 0 / 64≠2 by omega)]
  by_cases h4:192≤at8 b 1∧at8 b 1≤223
  · simp only [ZQ h4];rfl
  simp only [Z4 h4]
  obtain ⟨p,hp⟩:∃ p,p=12+4*(at8 b 0 % 16):=⟨_,rfl⟩
  have hx:(Vv b p).1=(Uk b,WV b)∧((Vv b p).2=decide (¬(b.length<p)∧¬(at8 b 0 / 16 % 2=1∧b.length<p+4)∧¬b.length<WV b)):=by
    unfold Vv Uk WV
    rw [←hp]
    by_cases h5:at8 b 0 / 16 % 2=1
    · rw [Z4 (show ¬at8 b 0 / 16 % 2=0 by omega)]
      simp only [ZQ h5]
      refine ⟨by first|rfl|simp,?_⟩
      rw [Bool.eq_iff_iff,TU,within_iff,Oh,Oh]
      omega
    · rw [ZQ (show at8 b 0 / 16 % 2=0 by omega)]
      simp only [Z4 h5]
      refine ⟨by first|rfl|simp,?_⟩
      rw [Bool.eq_iff_iff,Oh,Oh]
      omega
  rw [←hp,hx.1,hx.2]
  have hpe:p≤WV b:=by unfold WV;rw [←hp];split <;> omega
  by_cases h5:¬(b.length<p)∧¬(at8 b 0 / 16 % 2=1∧b.length<p+4)∧¬b.length<WV b
  · rw [We h5]
    simp only [Bool.true_eq_false,if_false,Z4 h5.1,Z4 h5.2.1,Z4 h5.2.2]
    have hq:(b.drop (WV b)).length=b.length-WV b:=Rx
    by_cases h6:at8 b 0 / 32 % 2=1
    · simp only [h6,true_and]
      unfold Sb Tm
      rw [Z4 (show ¬at8 b 0 / 32 % 2=0 by omega),hq,ZQ h6]
      by_cases h7:b.length-WV b=0
      · simp only [ZQ h7,ZQ (show WV b=b.length∨at8 b (b.length-1)=0∨b.length-WV b<at8 b (b.length-1) from Ww Zo)];rfl
      simp only [Z4 h7,om,List.drop_drop]
      rw [show WV b+(b.length-WV b-1)=b.length-1 by omega]
      by_cases h8:at8 b (b.length-1)=0∨b.length-WV b<at8 b (b.length-1)
      · simp only [ZQ h8,ZQ (show WV b=b.length∨at8 b (b.length-1)=0∨b.length-WV b<at8 b (b.length-1) from Wi h8)];rfl
      rw [Z4 h8,Z4 (show ¬(WV b=b.length∨at8 b (b.length-1)=0∨b.length-WV b<at8 b (b.length-1)) by omega),show WV b+(b.length-WV b-at8 b (b.length-1))=b.length-at8 b (b.length-1) by omega]
      by_cases h9:((b.drop (b.length-at8 b (b.length-1))).take (at8 b (b.length-1)-1)).all (fun x=>decide (x=0))=true
      · simp [h9]
      · simp [h9]
    · have h6':at8 b 0 / 32 % 2=0:=by omega
      unfold Sb Tm
      simp [h6',h6]
  · rw [WB h5]
    simp only [if_true]
    by_cases a1:b.length<p
    · rw [ZQ a1];rfl
    rw [Z4 a1]
    by_cases a2:at8 b 0 / 16 % 2=1∧b.length<p+4
    · rw [ZQ a2];rfl
    rw [Z4 a2]
    by_cases a3:b.length<WV b
    · rw [ZQ a3];rfl
    · exact absurd ⟨a1,a2,a3⟩ h5
end Go.Proofs.By
namespace Go.Proofs.By
open Go.RowKit Go.Proofs.Heap
open Go.Proofs.Rm (VK)
theorem Rz (v:Value) (b:List UInt8) (p q:Int) (w:World) (hv:X9 w v b):Calls Tryz.prog 118 #[v,.int .i64 p,.int .i64 q] w fun e w'=>e = .returned (.int .u64 (get b p q:Nat))∧w=w':=by
 have C:=Zh (qu v b p q w hv)
 clear hv
 go_enter Tryz.func118,Tryz.ntmps118
 go_wp2_with (go_at_call 145;refine C.o.mono ?_;rintro e w' ⟨rfl,rfl⟩)
 go_ret
 exact ⟨rfl,rfl⟩
theorem qx (p s:Int) (w:World):Calls Tryz.prog 61 (Qz p s) w fun e w'=>e = .returned (.int .u32 (Xc p s))∧w=w':=by
 have HF:Hid (Xc p s=if VK p 9 && VK s 9 then 3221225472+(256*p+s) else 0):=rfl
 generalize Xc p s=x at *
 by_cases h1:p<1
 ·have HX:Hid (x=0):=by show _=_;rw [HF.o,Z4 (by intro h;have:=Xq.1 ((TU _ _).mp h).1;omega)]
  have d1:decide (p<1)=true:=We h1
  exact j0
 have d1:decide (p<1)=false:=WB h1
 by_cases h2:8<p
 ·have HX:Hid (x=0):=by show _=_;rw [HF.o,Z4 (by intro h;have:=Xq.1 ((TU _ _).mp h).1;omega)]
  have d2:decide (8<p)=true:=We h2
  exact j0
 have d2:decide (8<p)=false:=WB h2
 by_cases h3:s<1
 ·have HX:Hid (x=0):=by show _=_;rw [HF.o,Z4 (by intro h;have:=Xq.1 ((TU _ _).mp h).2;omega)]
  have d3:decide (s<1)=true:=We h3
  exact j0
 have d3:decide (s<1)=false:=WB h3
 by_cases h4:8<s
 ·have HX:Hid (x=0):=by show _=_;rw [HF.o,Z4 (by intro h;have:=Xq.1 ((TU _ _).mp h).2;omega)]
  have d4:decide (8<s)=true:=We h4
  exact j0
 have d4:decide (8<s)=false:=WB h4
 have HX:Hid (x=3221225472+(256*p+s)):=by show _=_;rw [HF.o,ZQ (by rw [Xq.2 ⟨Zo,Zo⟩,Xq.2 ⟨Zo,Zo⟩];rfl)]
 have w1:IntKind.u32.wrap p=p:=by rw [NW];omega
 have w2:IntKind.u32.wrap s=s:=by rw [NW];omega
 have w3:IntKind.u32.wrap (p*256)=p*256:=by rw [NW];omega
 have w4:IntKind.u32.wrap (3221225472+p*256)=3221225472+p*256:=by rw [NW];omega
 have w5:IntKind.u32.wrap (3221225472+p*256+s)=3221225472+p*256+s:=by rw [NW];omega
 clear HF
 go_enter Tryz.func61,Tryz.ntmps61
 go_wp2
 go_ret
 exact ⟨LH (by rw [HX.o];omega),rfl⟩
theorem yE {x:Int} (h0:0≤x) (h1:x<4294967296) (h:∀ p s:Int,1≤p→p<9→1≤s→s<9→Xc p s≠x):Vg x=(0,0,false):=by
 have h2:Vg x=(if VK ((x+1073741824) % 4294967296 / 256) 9 && VK ((x+1073741824) % 4294967296 % 256) 9 then ((x+1073741824) % 4294967296 / 256,(x+1073741824) % 4294967296 % 256,true) else (0,0,false)):=rfl
 by_cases hc:(VK ((x+1073741824) % 4294967296 / 256) 9 && VK ((x+1073741824) % 4294967296 % 256) 9)=true
 ·rw [ZQ hc] at h2
  have h3:=(E_ h0 h1).2 h2
  have h4:=Xq.1 h3.1
  have h5:=Xq.1 h3.2.1
  exact absurd h3.2.2 (h _ _ h4.1 h4.2 h5.1 h5.2)
 ·rw [Z4 hc] at h2
  exact h2
theorem xP (x:Int) (w:World) (h0:0≤x) (h1:x<4294967296) :
  Calls Tryz.prog 103 #[.int .u32 x] w fun e w'=>e = .returned (.tuple (Q3 (Vg x).1 (Vg x).2.1 (Vg x).2.2))∧w=w':=by
 have CO:=Zh (fun (p s:Int)=>qx p s w)
 have HY:Hid (∀ p s:Int,1≤p→p<9→1≤s→s<9→Xc p s=x→Vg x=(p,s,true)):=fun p s a1 a2 a3 a4 h=>(E_ h0 h1).1 ⟨Xq.2 ⟨a1,a2⟩,Xq.2 ⟨a3,a4⟩,h⟩
 have HN:Hid ((∀ p s:Int,1≤p→p<9→1≤s→s<9→Xc p s≠x)→Vg x=(0,0,false)):=fun h=>yE h0 h1 h
 generalize Vg x=X at *
 clear h0 h1
 go_enter Tryz.func103,Tryz.ntmps103
 go_wp2_with fail
 go_loopw [5] (fun s5 w'=>∃ p:Nat,1≤p∧p≤9∧s5 = .int .i64 (p:Int)∧w'=w∧Hid (∀ p' s':Int,1≤p'→p'<p→1≤s'→s'<9→Xc p' s'≠x)) (fun s5 _=>9-(intOf s5).toNat)
 case atStart=>exact ⟨1,Zo,Zo,rfl,rfl,fun p' s' a b=>by omega⟩
 case round=>
  obtain ⟨p,Ew,L4,rfl,rfl,HP⟩:=hrel
  by_cases hp:p<9
  ·have dp:decide ((p:Int)≤8)=true:=We Zo
   go_wp2_with fail
   go_loopw [6] (fun s6 w'=>∃ s:Nat,1≤s∧s≤9∧s6 = .int .i64 (s:Int)∧w'=wr∧Hid (∀ s':Int,1≤s'→s'<s→Xc (p:Int) s'≠x)) (fun s6 _=>9-(intOf s6).toNat)
   case atStart=>exact ⟨1,Zo,Zo,rfl,rfl,fun s' a b=>by omega⟩
   case round=>
    obtain ⟨s,iT,bj,rfl,rfl,HS⟩:=hrel
    by_cases hs:s<9
    ·have ds:decide ((s:Int)≤8)=true:=We Zo
     have C1:=Zh (CO.o p s)
     by_cases hx:Xc (p:Int) (s:Int)=x
     ·have HX:Hid (X=((p:Int),(s:Int),true)):=HY.o p s Zo Zo Zo Zo hx
      rw [hx] at C1
      clear HY HN HP HS hx CO
      go_wp2_with (go_at_call 61;refine C1.o.mono ?_;rintro e w' ⟨rfl,rfl⟩)
      go_ret3
      exact ⟨by rw [HX.o];rfl,rfl⟩
     ·have e1:(Xc (p:Int) (s:Int) == x)=false:=by rw [WQ];exact hx
      have QO:Hid (∀ s':Int,1≤s'→s'<((s+1:Nat):Int)→Xc (p:Int) s'≠x):=fun s' a b=>by
       by_cases h:s'=(s:Int)
       ·rw [h];exact hx
       ·exact HS.o s' a Zo
      clear hx
      generalize Xc (p:Int) (s:Int)=z at *
      go_wp2_with (go_at_call 61;refine C1.o.mono ?_;rintro e w' ⟨rfl,rfl⟩)
      go_roundw
      case rel=>exact ⟨s+1,Zo,Zo,Zn,by first|rfl|trivial,QO.o⟩
      case measure=>simp [intOf];omega
    ·have iR:s=9:=by omega
     subst iR
     have mZ:Hid (∀ p' s':Int,1≤p'→p'<((p+1:Nat):Int)→1≤s'→s'<9→Xc p' s'≠x):=fun p' s' a b c d=>by
      by_cases h:p'=(p:Int)
      ·rw [h];exact HS.o s' c d
      ·exact HP.o p' s' a Zo c d
     clear hs
     go_wp2
     go_roundw
     case rel=>exact ⟨p+1,Zo,Zo,Zn,by first|rfl|trivial,mZ.o⟩
     case measure=>simp [intOf];omega
  ·have tq:p=9:=by omega
   subst tq
   have HX:Hid (X=(0,0,false)):=HN.o (fun p s a b c d=>HP.o p s a b c d)
   clear HP HY HN CO hp
   go_wp2
   go_ret3
   exact ⟨by rw [HX.o];rfl,rfl⟩
def Ws (k n:Nat):Nat:=if k=200 then 6+6*n else if k=201 then 1+6*n else if k=203 then n else if k=205 then 2+n else 2
theorem x_ (k n:Nat) (w:World) (hn:n≤100000):Calls Tryz.prog 116 (Qz (k:Int) (n:Int)) w fun e w'=>e = .returned (.int .i64 (Ws k n:Nat))∧w=w':=by
 have HF:Hid (Ws k n=if k=200 then 6+6*n else if k=201 then 1+6*n else if k=203 then n else if k=205 then 2+n else 2):=rfl
 generalize Ws k n=x at *
 have w1:IntKind.i64.wrap (6*(n:Int))=6*(n:Int):=Ty _ Zo
 have w2:IntKind.i64.wrap (6+6*(n:Int))=6+6*(n:Int):=Ty _ Zo
 have w3:IntKind.i64.wrap (1+6*(n:Int))=1+6*(n:Int):=Ty _ Zo
 have w4:IntKind.i64.wrap (2+(n:Int))=2+(n:Int):=Ty _ Zo
 by_cases k0:k=200
 ·have HX:Hid (x=6+6*n):=by show _=_;rw [HF.o,ZQ k0]
  subst k0
  exact nX
 by_cases k1:k=201
 ·have HX:Hid (x=1+6*n):=by show _=_;rw [HF.o,Z4 k0,ZQ k1]
  subst k1
  exact nX
 by_cases k3:k=203
 ·have HX:Hid (x=n):=by show _=_;rw [HF.o,Z4 k0,Z4 k1,ZQ k3]
  subst k3
  exact nX
 by_cases k5:k=205
 ·have HX:Hid (x=2+n):=by show _=_;rw [HF.o,Z4 k0,Z4 k1,Z4 k3,ZQ k5]
  subst k5
  exact nX
 have HX:Hid (x=2):=by show _=_;rw [HF.o,Z4 k0,Z4 k1,Z4 k3,Z4 k5]
 have e0:((k:Int) == 200)=false:=by rw [WQ];omega
 have e1:((k:Int) == 201)=false:=by rw [WQ];omega
 have e3:((k:Int) == 203)=false:=by rw [WQ];omega
 have e5:((k:Int) == 205)=false:=by rw [WQ];omega
 exact nX
theorem H_ {n:Nat} (h:n<256):((UInt8.ofNat n).toNat:Int)=(n:Int):=by rw [UInt8.toNat_ofNat'];omega
theorem vN (n:Nat) (w:World) (hn:n<65536):Calls Tryz.prog 147 #[.int .i64 2,.int .u64 (n:Int)] w fun e w'=>(∃ v,e = .returned v∧Row w' 5 v 2 (RX [UInt8.ofNat (n / 256),UInt8.ofNat (n % 256)]))∧Below w w w':=by
  have iI:∀ w:World,(Instr.makeSlice 30 (.int .i64 2) (.int .i64 2)).run Tryz.prog w = .ok (.slice (some ⟨w,0,none⟩) 2 2) (w.alloc (.cells (Qt 0 0) 5)):=fun w=>by kernel_rfl
  have BC:max (2:Int) 0=2:=by decide
  have hR:Hid (∀ w':World,w'.heap[w.heap.size]?=some (.cells (Qt ((n / 256:Nat):Int) ((n % 256:Nat):Int)) 5 (0,0))→Row w' 5 (.slice (some ⟨w,0,none⟩) 2 2) 2 (RX [UInt8.ofNat (n / 256),UInt8.ofNat (n % 256)])):=fun w' h=>by
    refine Row.Z6 (base:=0) (size:=1) ⟨rfl,Wi ⟨w,2,_,rfl,Tw _,h,by decide,by decide,rfl,?_⟩⟩
    simp only [RX,List.map_cons,List.map_nil,H_ (show n / 256<256 by omega),H_ (show n % 256<256 by omega)]
    rfl
  have a1:IntKind.u8.wrap ((n:Int) % 256)=(n:Int) % 256:=by rw [IntKind.wrap_u8];omega
  have a2:IntKind.u8.wrap ((n:Int) / 256 % 256)=(n:Int) / 256 % 256:=by rw [IntKind.wrap_u8];omega
  have hz:=Z7 w (.cells (Qt 0 0) 5)
  have Vp:Hid (Below w w (w.alloc (.cells (Qt 0 0) 5))):=Z' w _
  go_enter Tryz.func147,Tryz.ntmps147
  go_wp2_with fail
  go_loopw [1,6] (fun s1 s6 w'=>Below w w w'∧((s6 = .int .i64 1∧s1 = .int .u64 (n:Int)∧w'.heap[w.heap.size]?=some (.cells (Qt 0 0) 5 (0,0)))∨(s6 = .int .i64 0∧s1 = .int .u64 ((n:Int) / 256)∧w'.heap[w.heap.size]?=some (.cells (Qt 0 ((n:Int) % 256)) 5 (0,0)))∨(s6 = .int .i64 (-1)∧s1 = .int .u64 ((n:Int) / 256 / 256)∧w'.heap[w.heap.size]?=some (.cells (Qt ((n:Int) / 256 % 256) ((n:Int) % 256)) 5 (0,0))))) (fun _ s6 _=>(intOf s6+1).toNat)
  case atStart=>exact ⟨Vp.o,Ww ⟨rfl,rfl,hz⟩⟩
  case round=>
    obtain ⟨Wn,h⟩:=hrel
    have SG:=Zh Wn
    clear Wn
    rcases h with ⟨rfl,rfl,hb⟩|⟨rfl,rfl,hb⟩|⟨rfl,rfl,hb⟩
    · have k1:=cell_of hb 1
      have f1:=ZO hb 1
      simp only [SK,S6,SJ] at k1
      have Y0:=VM hb 1 (.int .u8 ((n:Int) % 256))
      go_wp2
      go_roundw
      case rel=>exact ⟨((Fr.Z8 P_ SG.o).setCell (p:=⟨w,1,none⟩) (Ww (Zw _)) _).below,Wi (Ww ⟨rfl,rfl,Y0⟩)⟩
      case measure=>simp [intOf]
    · have k1:=cell_of hb 0
      have f1:=ZO hb 0
      simp only [SK,S6,SJ] at k1
      have Y0:=VM hb 0 (.int .u8 ((n:Int) / 256 % 256))
      go_wp2
      go_roundw
      case rel=>exact ⟨((Fr.Z8 P_ SG.o).setCell (p:=⟨w,0,none⟩) (Ww (Zw _)) _).below,Wi (Wi ⟨rfl,rfl,Y0⟩)⟩
      case measure=>simp [intOf]
    · have e1:((n / 256:Nat):Int)=(n:Int) / 256 % 256:=by omega
      have e2:((n % 256:Nat):Int)=(n:Int) % 256:=by omega
      have HRR:=Zh (hR.o wr (by rw [e1,e2];exact hb))
      clear hR
      go_wp2
      go_ret
      exact ⟨⟨_,rfl,HRR.o⟩,SG.o⟩
theorem I8 (ly fr:Int) (ke st:Bool) (w:World) (h0:0≤ly):Calls Tryz.prog 146 #[.agg (Qc ly ke st fr)] w fun e w'=>e = .returned (.bool (decide (ly≤2)))∧Below w w w':=by
  have d0:decide (0≤ly)=true:=We h0
  go_enter Tryz.func146,Tryz.ntmps146
  go_wp2
  go_ret
  exact ⟨rfl,Z' w _⟩
def RY (ly:Nat) (ke st:Bool):Nat:=ly+(if ke then 128 else 0)+(if st then 64 else 0)
theorem tR (w:World) (e:TypeId) (size n m base:Nat) (xs:List Value) (hl:xs.length=n*size) (hn:n≤maxLen) (hm:m=w.heap.size) (hB:base≤m):(w.alloc (.cells xs.toArray e)).ownsRow base e size (.slice (some ⟨m,0,none⟩) n n) n xs:=by
  exact Yt26
theorem zH (ly fr:Nat) (ke st:Bool) (w:World) (hl:ly≤2) (hf:fr<65536):Calls Tryz.prog 119 #[.agg (Qc (ly:Int) ke st (fr:Int))] w fun e w'=>(∃ v,e = .returned v∧Row w' 5 v 4 (RX [UInt8.ofNat (RY ly ke st),90,UInt8.ofNat (fr / 256),UInt8.ofNat (fr % 256)]))∧Below w w w':=by
  have CM:=Zh (fun w'=>I8 (ly:Int) (fr:Int) ke st w' Zo)
  have CB:=Zh (fun w'=>vN fr w' hf)
  have dl:decide ((ly:Int)≤2)=true:=We Zo
  have a9:IntKind.u64.wrap (fr:Int)=(fr:Int):=by rw [IntKind.wrap_u64];omega
  have Vp:Hid (Below w w (w.alloc (.cells (Qc (ly:Int) ke st (fr:Int)) 81))):=Z' w _
  have hz:=Z7 w (.cells (Qc (ly:Int) ke st (fr:Int)) 81)
  obtain ⟨x,hx⟩:∃ x:Int,x=((RY ly ke st:Nat):Int):=⟨_,rfl⟩
  have HY:Hid (RX [UInt8.ofNat (RY ly ke st),90,UInt8.ofNat (fr / 256),UInt8.ofNat (fr % 256)]=[.int .u8 x,.int .u8 90]++RX [UInt8.ofNat (fr / 256),UInt8.ofNat (fr % 256)]):=by
    show _=_
    have dD:RY ly ke st<256:=by unfold RY;split <;> split <;> omega
    simp only [RX,List.map_cons,List.map_nil,H_ dD,hx]
    rfl
  rw [HY.o]
  clear HY
  cases ke <;> cases st
  case' false.false=>
    have a0:IntKind.u8.wrap (ly:Int)=x:=by rw [IntKind.wrap_u8,hx];simp [RY];omega
  case' false.true=>
    have a0:IntKind.u8.wrap (ly:Int)=(ly:Int):=by rw [IntKind.wrap_u8];omega
    have a1:IntKind.u8.wrap ((ly:Int)+64)=x:=by rw [IntKind.wrap_u8,hx];simp [RY];omega
  case' true.false=>
    have a0:IntKind.u8.wrap (ly:Int)=(ly:Int):=by rw [IntKind.wrap_u8];omega
    have a1:IntKind.u8.wrap ((ly:Int)+128)=x:=by rw [IntKind.wrap_u8,hx];simp [RY];omega
  case' true.true=>
    have a0:IntKind.u8.wrap (ly:Int)=(ly:Int):=by rw [IntKind.wrap_u8];omega
    have a1:IntKind.u8.wrap ((ly:Int)+128)=(ly:Int)+128:=by rw [IntKind.wrap_u8];omega
    have a2:IntKind.u8.wrap ((ly:Int)+128+64)=x:=by rw [IntKind.wrap_u8,hx];simp [RY];omega
  all_goals
    clear hx hl
    go_enter Tryz.func119,Tryz.ntmps119
    go_upto_region 3 with (go_at_call 146;refine (CM.o _).mono ?_;rintro e w2 ⟨rfl,Y0⟩;have X6:=Zh (Vp.o.trans (Y0.mono Vp.o.size));have Sr:=(Y0.block _ (ZV hz)).trans hz;clear Y0)
    have q0:w2.cell? ⟨w,0,none⟩=some (.int .i64 (ly:Int)):=Zc Sr 0 rfl
    have q1:=cell_of Sr 1
    have q2:=cell_of Sr 2
    have q3:w2.cell? ⟨w,3,none⟩=some (.int .u16 (fr:Int)):=Zc Sr 3 rfl
    simp only [SK,S6,SJ] at q1 q2
    have q4:=((Z' w2 (.cells (Qt x 90) 5)).cell (p:=⟨w,3,none⟩) (ZV Sr)).trans q3
    have ME:Hid ((w2.alloc (.cells (Qt x 90) 5)).ownsRow w 5 1 (.slice (some ⟨w2,0,none⟩) 2 2) 2 (Qt x 90)):=tR w2 5 1 2 w2.heap.size w.heap.size (Qt x 90) rfl Zd rfl X6.o.size
    have VT:Hid (Below w w (w2.alloc (.cells (Qt x 90) 5))):=ZC X6.o (Zw _) _
    have az:Hid (∀ u∈RX [UInt8.ofNat (fr / 256),UInt8.ofNat (fr % 256)],u.oneCell'=true):=fun u hu=>by
      simp only [RX,List.map_cons,List.map_nil,Mg,List.mem_nil_iff,or_false] at hu
      rcases hu with rfl|rfl <;> rfl
    clear hz Sr
    go_wp2_with (first|(go_at_call 147;refine (CB.o _).mono ?_;rintro e w4 ⟨⟨v4,rfl,hr⟩,OE⟩;have aD:=Zh hr;have Uc:=Zh (VT.o.trans (OE.mono VT.o.size));have HOW4:=Zh (Yx ME.o OE);clear hr OE)|(at_builtin;refine YV rfl (.tmp 19) (.tmp 23) 30 rfl w.heap.size VL (.slice (some ⟨w2,0,none⟩) 2 2) 2 (Qt x 90) rfl HOW4.o v4 2 (RX [UInt8.ofNat (fr / 256),UInt8.ofNat (fr % 256)]) rfl aD.o rfl az.o Zd Zd Uc.o.size (fun v5 w5 fU jl=>?_)))
    go_ret
    exact ⟨⟨_,rfl,Row.Z6 fU.o⟩,((Fr.Z8 P_ Uc.o).grown jl.o Uc.o.size (Rm.YL HOW4.o)).below⟩
theorem B6 (ly fr:Int) (ke st:Bool) (w:World) (h2:2<ly):Calls Tryz.prog 119 #[.agg (Qc ly ke st fr)] w fun e w'=>e = .returned (.slice none 0 0)∧Below w w w':=by
  have CM:=Zh (fun w'=>I8 ly fr ke st w' Zo)
  have Vp:Hid (Below w w (w.alloc (.cells (Qc ly ke st fr) 81))):=Z' w _
  have dl:decide (ly≤2)=false:=WB Zo
  go_enter Tryz.func119,Tryz.ntmps119
  go_wp2_with (go_at_call 146;refine (CM.o _).mono ?_;rintro e w2 ⟨rfl,Y0⟩;have X6:=Zh (Vp.o.trans (Y0.mono Vp.o.size));clear Y0)
  go_ret
  exact ⟨rfl,X6.o⟩
end Go.Proofs.By
namespace Go.Proofs.By
open Go.Proofs.Rm (YD)
def noOp:Rm.Op:=⟨0,0,0,0,[],[]⟩
def opAt (L:List VG) (k:Nat):Rm.Op:=match L[k]? with
 | none=>noOp
 | some y=>y.x.o
def mA (L:List VG) (k:Nat):Int:=if (ZX L k).XE.kind≠2∨(opAt L k).kind=1 then 0 else (opAt L k).kind
structure VS where
 want:Int
 cur:Int
 ZR:Bool
 ZG:Bool
deriving DecidableEq
def VS.quiet (s:VS):Bool:=s.ZR || s.ZG
def OP (x:Zq) (at':Int):Bool:=decide (x.Kf<at') && decide (at'<x.fin)
def Mx (s:VS) (k q:Int):VS:=if k=12 then {s with want:=q} else if k=10 then {s with ZR:=true,cur:= -1} else if k=11 then {s with ZR:=false} else s
def Tk (L:List VG) (x:Zq) (k:Nat):Bool:=OP x k && decide ((ZX L k).XE.kind=1) && decide ((ZX L k).XE.source=x.source)
def Ug (s:VS) (d:F3):Bool:= !s.quiet && d.key && d.start && decide (d.ZF=s.want) && !decide (d.ZF=s.cur)
def YN (s:VS) (k:Int):VS:=if k=4∨k=9 then {s with ZG:=false} else if k=8 then {s with ZG:=true,cur:= -1} else s
def Ec (L:List VG) (x:Zq) (s:VS) (k:Nat):VS:=
 if (opAt L k).source=x.source then
  (if (opAt L k).peer=x.peer∧OP x k=true then Mx (YN s (mA L k)) (mA L k) (opAt L k).ZF else YN s (mA L k))
 else s
def AP (L:List VG) (x:Zq) (s:VS) (k:Nat):VS:=
 if Tk L x k && Ug s (ZX L k).Wo then {Ec L x s k with cur:=(ZX L k).Wo.ZF} else Ec L x s k
def Wu (L:List VG) (x:Zq):Nat→VS
 | 0=>⟨(opAt L x.Kf.toNat).ZF,-1,false,false⟩
 | k+1=>AP L x (Wu L x k) k
def WK (L:List VG) (x:Zq) (n:Nat):List VS:=(List.range n).map (Wu L x)
theorem Uv (L:List VG) (x:Zq) (n:Nat):WK L x (n+1)=WK L x n++[Wu L x n]:=by unfold WK;rw [ru,N7];rfl
theorem NK (L:List VG) (x:Zq) (n:Nat):(WK L x n).length=n:=by unfold WK;rw [Tx,List.length_range]
theorem OY (L:List VG) (x:Zq) {n k:Nat} (h:k<n):(WK L x n)[k]?=some (Wu L x k):=by unfold WK;rw [List.getElem?_map,List.getElem?_range h];rfl
def there (x:Zq) (at':Int):Bool:=decide (x.Kf<at') && decide (at'≤x.fin)
end Go.Proofs.By
