import Derived.Test.YtpdjhlcbcomdkaaGreatDoorS12
set_option linter.all false
set_option maxRecDepth 100000
set_option maxHeartbeats 16000000
open Go Go.Q Go.Qr Go.Proofs.Tryz Go.RowKit
namespace Go.Proofs.By
def Uz:Elem prog 122 4 1 1:=⟨underlying122,⟨.bool false,by kernel_rfl,rfl⟩,by decide⟩
structure BkF(w:World)(k:Nat)(ov av mv lv:Value)(L:List WR)(LS:List Zt):Prop where
 book:w.heap[k]?=some (.cells #[ov,av,mv,lv] 116 (0,0))
 ops:Wu w ov L
 XR:Row w 35 av L.length ((XV L L.length).flatMap VF)
 Kp:∃M:List Tt,Row w 97 mv M.length (M.flatMap Xg)∧(∀y∈M,Vp w y.p y.cv y.ev y.pv)∧M.map (fun y=>(y.p,y.d))=NR L L.length
 P6:Row w 59 lv LS.length (LS.flatMap Z5)
def BkF.below{w w':World}{k:Nat}{ov av mv lv:Value}{L:List WR}{LS:List Zt}(h:BkF w k ov av mv lv L LS)(hb:Below w w w'):BkF w' k ov av mv lv L LS:=by
 obtain⟨M,m1,m0,m2⟩:=h.Kp;exact⟨(hb.block _ (ZY h.book)).trans h.book,h.ops.below hb,Row.below h.XR hb,⟨M,Row.below m1 hb,fun y hy=>(m0 y hy).below hb,m2⟩,Row.below h.P6 hb⟩
def VB.of{w w':World}{V k:Nat}{ov av mv lv:Value}{L:List WR}{LS:List Zt}{x:Zt}{wv cv qv:Value}(h:BkF w k ov av mv lv L LS)(hb:Below w w w')(hv:w'.heap[V]?=some (.cells (Q8 (some ⟨k,0,none⟩) x.peer x.source x.Mx x.fin wv cv qv) 164 (0,0))):VB w' V k ov av mv lv L x wv cv qv:=
 ⟨(h.below hb).book,(h.below hb).ops,(h.below hb).XR,(h.below hb).Kp,hv⟩
structure VO(w w':World)(V T k:Nat)(x:Zt)(s:VS)(w0 c0 q0 wv:Value)(ws:List Int)(cv:Value)(cs:List Int)(qv:Value)(qs:List Bool):Prop where
 Za:Below w w w'
 view:w'.heap[V]?=some (.cells (Q8 (some ⟨k,0,none⟩) x.peer x.source x.Mx x.fin w0 c0 q0) 164 (0,0))
 st:w'.heap[T]?=some (.cells (XA s).toArray 202 (0,0))
 want:w'.ownsRow w 3 1 wv ws.length (Wj ws)
 cur:w'.ownsRow w 3 1 cv cs.length (Wj cs)
 quiet:w'.ownsRow w 4 1 qv qs.length (UR qs)
 ne:∀i,wv.ownBlock=some i→cv.ownBlock≠some i
 ge:w.heap.size≤V∧w.heap.size≤T
def Am(w:World):Below w w w.drew:=(YE _ _).drew
def row_one{w:World}{B:Nat}{e:TypeId}{v:Value}(h:w.heap[B]?=some (.cells #[v] e (0,0))):Row w e (.slice (some ⟨B,0,none⟩) 1 1) 1 [v]:=
 ⟨_,_,rfl,Zq _,by unfold maxLen;omega,(fun h=>by cases h),WG ⟨B,0,_,_,rfl,h,fun j hj=>by
  have hj:j<1:=hj;have:j=0:=by omega
  subst this
  rfl⟩⟩
section
variable {w w1 w2:World} {V T k:Nat} {x:Zt} {s:VS} {w0 c0 q0 wv:Value} {ws:List Int} {cv:Value} {cs:List Int} {qv:Value} {qs:List Bool}
def VO.below(h:VO w w1 V T k x s w0 c0 q0 wv ws cv cs qv qs)(hb:Below w1 w1 w2):VO w w2 V T k x s w0 c0 q0 wv ws cv cs qv qs:=
 ⟨h.Za.trans (hb.mono h.Za.size),(hb.block _ (ZY h.view)).trans h.view,(hb.block _ (ZY h.st)).trans h.st,Yq h.want hb,Yq h.cur hb,Yq h.quiet hb,h.ne,h.ge⟩
def VO.facts(h:VO w w1 V T k x s w0 c0 q0 wv ws cv cs qv qs):w1.cell? ⟨V,5,none⟩=some w0∧w1.cell? ⟨V,6,none⟩=some c0∧w1.cell? ⟨V,7,none⟩=some q0∧w1.cell? ⟨T,0,none⟩=some (.int .i64 s.want)∧w1.cell? ⟨T,1,none⟩=some (.int .i64 s.cur)∧w1.cell? ⟨T,2,none⟩=some (.bool s.ZV)∧w1.cell? ⟨T,3,none⟩=some (.bool s.ZJ):=
 ⟨Zc h.view 5 rfl,Zc h.view 6 rfl,Zc h.view 7 rfl,Zc h.st 0 rfl,Zc h.st 1 rfl,Zc h.st 2 rfl,Zc h.st 3 rfl⟩
def RR{w:World}{base:Nat}{e:TypeId}{size:Nat}{v:Value}{n:Nat}{xs:List Value}(h:w.ownsRow base e size v n xs){i:Nat}(hi:v.ownBlock=some i):i<w.heap.size:=by
 obtain⟨cu,hc⟩:=V7 h i hi;exact ZY hc
def VO.Cb(h:VO w w1 V T k x s w0 c0 q0 wv ws cv cs qv qs)(hg:w1.grownBy w2 wv.ownBlock){wv':Value}{ws':List Int}(ho:w2.ownsRow w 3 1 wv' ws'.length (Wj ws'))(hw:∀i,wv'.ownBlock=some i→wv.ownBlock=some i∨i=w1.heap.size):VO w w2 V T k x s w0 c0 q0 wv' ws' cv cs qv qs:=
 ⟨((Fr.Z8 Pj h.Za).grown hg h.Za.size (YG h.want)).below,(hg.block _ (ZY h.view) (fun e=>Y0 h.want Zd _ _ _ e.symm h.view)).trans h.view,(hg.block _ (ZY h.st) (fun e=>Y0 h.want Zd _ _ _ e.symm h.st)).trans h.st,ho,
  XO h.cur (fun i hi=>hg.block i (RR h.cur hi) (fun e=>h.ne i e.symm hi)),U8 h.quiet h.want Zd hg,
  fun i hi hc=>by rcases hw i hi with h1|h1;exact h.ne i h1 hc;have:=RR h.cur hc;omega,h.ge⟩
def VO.Ca(h:VO w w1 V T k x s w0 c0 q0 wv ws cv cs qv qs)(hg:w1.grownBy w2 cv.ownBlock){cv':Value}{cs':List Int}(ho:w2.ownsRow w 3 1 cv' cs'.length (Wj cs'))(hw:∀i,cv'.ownBlock=some i→cv.ownBlock=some i∨i=w1.heap.size):VO w w2 V T k x s w0 c0 q0 wv ws cv' cs' qv qs:=
 ⟨((Fr.Z8 Pj h.Za).grown hg h.Za.size (YG h.cur)).below,(hg.block _ (ZY h.view) (fun e=>Y0 h.cur Zd _ _ _ e.symm h.view)).trans h.view,(hg.block _ (ZY h.st) (fun e=>Y0 h.cur Zd _ _ _ e.symm h.st)).trans h.st,
  XO h.want (fun i hi=>hg.block i (RR h.want hi) (fun e=>h.ne i hi e.symm)),ho,U8 h.quiet h.cur Zd hg,
  fun i hi hc=>by rcases hw i hc with h1|h1;exact h.ne i hi h1;have:=RR h.want hi;omega,h.ge⟩
def VO.j3(h:VO w w1 V T k x s w0 c0 q0 wv ws cv cs qv qs)(hg:w1.grownBy w2 qv.ownBlock){qv':Value}{qs':List Bool}(ho:w2.ownsRow w 4 1 qv' qs'.length (UR qs')):VO w w2 V T k x s w0 c0 q0 wv ws cv cs qv' qs':=
 ⟨((Fr.Z8 Pj h.Za).grown hg h.Za.size (YG h.quiet)).below,(hg.block _ (ZY h.view) (fun e=>Y0 h.quiet Zd _ _ _ e.symm h.view)).trans h.view,(hg.block _ (ZY h.st) (fun e=>Y0 h.quiet Zd _ _ _ e.symm h.st)).trans h.st,
  U8 h.want h.quiet Zd hg,U8 h.cur h.quiet Zd hg,ho,h.ne,h.ge⟩
def VO.vt(h:VO w w1 V T k x s w0 c0 q0 wv ws cv cs qv qs):V≠T:=fun e=>by
 have h1:=h.view;rw[e,h.st]at h1;injection h1 with h1
 injection h1 with _ h1
 exact absurd h1 Zd
def VO.rest(h:VO w w1 V T k x s w0 c0 q0 wv ws cv cs qv qs){b:Nat}(hb:b=V∨b=T)(he:∀j,j≠b→w2.heap[j]?=w1.heap[j]?):w2.ownsRow w 3 1 wv ws.length (Wj ws)∧w2.ownsRow w 3 1 cv cs.length (Wj cs)∧w2.ownsRow w 4 1 qv qs.length (UR qs):=by
 have hn:∀ {v:Value} {e:TypeId} {n:Nat} {xs:List Value},w1.ownsRow w e 1 v n xs→e=3∨e=4→∀i,v.ownBlock=some i→i≠b:=fun ho ht i hi hib=>by
  subst hib;rcases hb with rfl|rfl
  ·exact Y0 ho (by rcases ht with rfl|rfl <;> decide) _ _ _ hi h.view
  ·exact Y0 ho (by rcases ht with rfl|rfl <;> decide) _ _ _ hi h.st
 exact⟨XO h.want (fun i hi=>he i (hn h.want (WQ rfl) i hi)),XO h.cur (fun i hi=>he i (hn h.cur (WQ rfl) i hi)),XO h.quiet (fun i hi=>he i (hn h.quiet (WG rfl) i hi))⟩
def VO.setV(h:VO w w1 V T k x s w0 c0 q0 wv ws cv cs qv qs)(o:Nat)(u w0' c0' q0':Value)(hs:[.pointer (some ⟨k,0,none⟩),.int .i64 x.peer,.int .i64 x.source,.int .i64 x.Mx,.int .i64 x.fin,w0,c0,q0].set o u=(Q8 (some ⟨k,0,none⟩) x.peer x.source x.Mx x.fin w0' c0' q0')):VO w (w1.setCell ⟨V,o,none⟩ u) V T k x s w0' c0' q0' wv ws cv cs qv qs:=by
 have h2:=Vu h.view o u;rw[List.setIfInBounds_toArray,hs]at h2;obtain⟨r1,r2,r3⟩:=h.rest (w2:=w1.setCell ⟨V,o,none⟩ u) (WQ rfl) (fun j hj=>L8 w1 ⟨V,o,none⟩ u j hj);exact⟨((Fr.Z8 Pj h.Za).setCell (p:=⟨V,o,none⟩) (WQ h.ge.1) _).below,h2,(L8 w1 ⟨V,o,none⟩ u T (fun e=>h.vt e.symm)).trans h.st,r1,r2,r3,h.ne,h.ge⟩
def VO.setT(h:VO w w1 V T k x s w0 c0 q0 wv ws cv cs qv qs)(s':VS):VO w (w1.setRow T (XA s').toArray) V T k x s' w0 c0 q0 wv ws cv cs qv qs:=by
 obtain⟨r1,r2,r3⟩:=h.rest (w2:=w1.setRow T (XA s').toArray) (WG rfl) (fun j hj=>setRow_other w1 T j _ hj);exact⟨Z0 h.Za h.ge.2 _,by rw[setRow_other w1 T V _ h.vt];exact h.view,setRow_heap _ _ _ _ _ _ h.st,r1,r2,r3,h.ne,h.ge⟩
def VO.rows(h:VO w w1 V T k x s w0 c0 q0 wv ws cv cs qv qs){SS:List VS}(h1:ws=SS.map VS.want)(h2:cs=SS.map VS.cur)(h3:qs=SS.map VS.quiet):Nq w1 wv cv qv SS:=by
 subst h1;subst h2;subst h3;have a:=Row.Z4 h.want;have b:=Row.Z4 h.cur;have c:=Row.Z4 h.quiet;rw[Te]at a b c;exact⟨a,b,c⟩
def Fy(l:List Int)(z:Int):Wj (l++[z])=Wj l++[.int .i64 z]:=by simp[Wj]
def xj(l:List Bool)(z:Bool):UR (l++[z])=UR l++[.bool z]:=by simp[UR]
end
def ou{k:Nat}{ov av mv lv:Value}{L:List WR}{LS:List Zt}{w:World}(h:BkF w k ov av mv lv L LS)(x:Zt)(hx:x ∉ LS) :
  Calls prog 87 (Qi (some ⟨k,0,none⟩) (Z5 x).toArray) w fun e w'=>e = .returned (.pointer none)∧Below w w w':=by
 have hdx:decide (x∈LS)=false:=WH hx;have wm:=Zh h;have ub:∃a n c,lv = .slice a n c:=by obtain⟨a,c,e⟩:=Row.form h.P6;exact⟨a,_,c,e⟩
 obtain⟨la,ln,lc,rfl⟩:=ub;have af:=Zh (fun(w':World) (hb:Below w w w')=>LM _ LS x w' (Row.below h.P6 hb));rw[hdx]at af;clear hdx hx h;obtain⟨p,sr,b,f⟩:=x;dsimp only[Z5]at af ⊢;have Rq:Hid ((w.alloc (.cells (Qb p sr b f) 59)).heap[w.heap.size]?=some (.cells (Qb p sr b f) 59 (0,0))):=Z9 w _;have U_:Hid (Below w w (w.alloc (.cells (Qb p sr b f) 59))):=Z' w _;go_enter func87,ntmps87;go_upto_region 1 with fail
 generalize w.alloc (.cells (Qb p sr b f) 59)=w1 at *
 have Zv:Hid (∀w',Below w1 w1 w'→w'.cell? ⟨k,3,none⟩=some (.slice la ln lc)∧w'.rangeAt w 0 (Qb p sr b f)∧Below w1 w1 w'):=fun w' hb=>
  ⟨by rw[cell_of (wm.o.below (Tr U_ hb)).book 3];rfl,fun m v hm=>by rw[PA,cell_of ((hb.block _ (ZY Rq.o)).trans Rq.o) m];simpa using hm,hb⟩
 have CC:=Zh (af.o w1.drew (U_.o.trans ((YE w1 w1).drew.mono U_.o.size)));refine RX ?_;refine Zj (d:=5) (S:=(fun w'=>w'.cell? ⟨k,3,none⟩=some (.slice la ln lc)∧w'.rangeAt w 0 (Qb p sr b f)∧Below w1 w1 w')) X6 ?_ (fun XY=>?_)
 ·exact Zv.o _ (YE _ _).drew
 refine YP 0 (h:=YP 1 (h:=YP 2 (h:=YK 3 (h:=?_))));refine tk 4 ?_ rfl ?_ <| ?_
 rotate_left
 ·intro wS Ud;(try dsimp only at Ud)
  refine(Xj 59 (.tmp 3) ?_ w 0 ?_ (Qb p sr b f) _ Ud.2.1 underlying59 rfl X6).trans ?_;all_goals rfl
 try simp only[pt]
 refine YR 5 (h:=fun K hK=>?_);go_simp;refine CC.o.mono ?_;rintro e w2 ⟨rfl,Y7⟩;have Yc:=Zh ((YE w1 w1).drew.trans Y7);clear Y7;go_wp2_with fail
 refine Ye hK _ _ X6 ?_;clear hK K;try simp only[pt]
 refine YP 6 (h:=?_);refine Yt X6 ?_ _;refine QP ?_;go_wp2_with fail
 go_ret;exact⟨rfl,Tr U_ Yc.o⟩
def oz{k:Nat}{ov av mv lv:Value}{L:List WR}{LS:List Zt}{w:World}(h:BkF w k ov av mv lv L LS)(hL:L.length≤256)(x:Zt)(hx:x∈LS)(h0:0≤x.Mx)(h1:x.Mx<L.length) :
  Calls prog 87 (Qi (some ⟨k,0,none⟩) (Z5 x).toArray) w fun e w'=>(∃V wv cv qv,e = .returned (.pointer (some ⟨V,0,none⟩))∧VB w' V k ov av mv lv L x wv cv qv∧Nq w' wv cv qv (Wn L x (L.length+1)))∧Below w w w':=by
 have hdx:decide (x∈LS)=true:=WV hx;have wm:=Zh h;have ub:∃a n c,lv = .slice a n c:=by obtain⟨a,c,e⟩:=Row.form h.P6;exact⟨a,_,c,e⟩
 obtain⟨la,ln,lc,rfl⟩:=ub;have af:=Zh (fun(w':World) (hb:Below w w w')=>LM _ LS x w' (Row.below h.P6 hb));rw[hdx]at af;clear hdx hx h;obtain⟨nb,hnb⟩:∃nb:Nat,x.Mx=(nb:Int):=⟨x.Mx.toNat,Zo⟩;obtain⟨p,sr,b,f⟩:=x;have hnb:b=(nb:Int):=hnb;have h1:b<L.length:=h1;subst hnb;clear h0;dsimp only[Z5]at af ⊢;have hnL:nb<L.length:=by omega
 clear h1;have Rq:Hid ((w.alloc (.cells (Qb p sr (nb:Int) f) 59)).heap[w.heap.size]?=some (.cells (Qb p sr (nb:Int) f) 59 (0,0))):=Z9 w _;have U_:Hid (Below w w (w.alloc (.cells (Qb p sr (nb:Int) f) 59))):=Z' w _;go_enter func87,ntmps87;go_upto_region 1 with fail
 generalize w.alloc (.cells (Qb p sr (nb:Int) f) 59)=w1 at *
 have Zv:Hid (∀w',Below w1 w1 w'→w'.cell? ⟨k,3,none⟩=some (.slice la ln lc)∧w'.rangeAt w 0 (Qb p sr (nb:Int) f)∧Below w1 w1 w'):=fun w' hb=>
  ⟨by rw[cell_of (wm.o.below (Tr U_ hb)).book 3];rfl,fun m v hm=>by rw[PA,cell_of ((hb.block _ (ZY Rq.o)).trans Rq.o) m];simpa using hm,hb⟩
 have CC:=Zh (af.o w1.drew (U_.o.trans ((YE w1 w1).drew.mono U_.o.size)));refine RX ?_;refine Zj (d:=5) (S:=(fun w'=>w'.cell? ⟨k,3,none⟩=some (.slice la ln lc)∧w'.rangeAt w 0 (Qb p sr (nb:Int) f)∧Below w1 w1 w')) X6 ?_ (fun XY=>?_)
 ·exact Zv.o _ (YE _ _).drew
 refine YP 0 (h:=YP 1 (h:=YP 2 (h:=YK 3 (h:=?_))));refine tk 4 ?_ rfl ?_ <| ?_
 rotate_left
 ·intro wS Ud;(try dsimp only at Ud)
  refine(Xj 59 (.tmp 3) ?_ w 0 ?_ (Qb p sr (nb:Int) f) _ Ud.2.1 underlying59 rfl X6).trans ?_;all_goals rfl
 try simp only[pt]
 refine YR 5 (h:=fun K hK=>?_);go_simp;refine CC.o.mono ?_;rintro e w2 ⟨rfl,Y7⟩;have Yc:=Zh ((YE w1 w1).drew.trans Y7);clear Y7;go_wp2_with fail
 refine Ye hK _ _ X6 ?_;clear hK K;try simp only[pt]
 refine YP 6 (h:=?_);refine Yt X6 ?_ _;refine QP ?_;have WB:=Zh (Tr U_ Yc.o);have ry:Hid (w2.heap[w.heap.size]?=some (.cells (Qb p sr (nb:Int) f) 59 (0,0))):=(Yc.o.block _ (ZY Rq.o)).trans Rq.o;have cS:=Zh (wm.o.below WB.o);clear U_ Yc Rq Zv CC af XY;obtain⟨g,o,c,nm,a1,n1,c1,a2,n2,c2,hov,Cm⟩:=lZ cS.o.ops hnL;have HOV:=Zh hov;have HLY:Hid (w2.cell? ⟨g,o+nb*7+3,none⟩=some (.int .i64 (opAt L nb).ZC)):=OP Cm 3 rfl;have lF:=ry.o;clear hov Cm;go_upto_region 4 with(with_reducible refine Zl lF underlying59 ?_)
 clear lF;have HV4:Hid ((w2.alloc (.cells (Jn (some ⟨k,0,none⟩) p sr (nb:Int) f none 0 0 none 0 0 none 0 0) 164)).heap[w2.heap.size]?=some (.cells (Jn (some ⟨k,0,none⟩) p sr (nb:Int) f none 0 0 none 0 0 none 0 0) 164 (0,0))):=Z9 w2 _;have cR:Hid (Below w2 w2 (w2.alloc (.cells (Jn (some ⟨k,0,none⟩) p sr (nb:Int) f none 0 0 none 0 0 none 0 0) 164))):=Z' w2 _;have HGV:Hid (w.heap.size≤w2.heap.size):=WB.o.size;generalize w2.alloc (.cells (Jn (some ⟨k,0,none⟩) p sr (nb:Int) f none 0 0 none 0 0 none 0 0) 164)=w4 at *;have U5:=Zh (Tr WB cR.o);have hnI:(nb:Int)<(L.length:Int):=PM.2 hnL
 have SI:Hid (∀w',Below w4 w4 w'→w'.cell? ⟨k,0,none⟩=some (.slice (some ⟨g,o,none⟩) L.length c)∧w'.cell? ⟨w,2,none⟩=some (.int .i64 (nb:Int))∧w'.cell? ⟨g,o+nb*7+3,none⟩=some (.int .i64 (opAt L nb).ZC)):=fun w' hb=>
  have Y7:=Tr cR hb
  ⟨by rw[←HOV.o,cell_of (cS.o.below Y7).book 0];rfl,by rw[cell_of ((Y7.block _ (ZY ry.o)).trans ry.o) 2];rfl,ZM HLY.o Y7⟩
 refine RX ?_;refine Zj (d:=11) (S:=(fun w'=>w'.cell? ⟨k,0,none⟩=some (.slice (some ⟨g,o,none⟩) L.length c)∧w'.cell? ⟨w,2,none⟩=some (.int .i64 (nb:Int))∧w'.cell? ⟨g,o+nb*7+3,none⟩=some (.int .i64 (opAt L nb).ZC))) X6 ?_ (fun XY=>?_)
 ·exact SI.o _ (YE _ _).drew
 refine YP 0 (h:=YP 1 (h:=YP 2 (h:=YP 4 (h:=YK 3 (h:=YK 5 (h:=YP 6 (h:=YP 7 (h:=YK 8 (h:=YP 9 (h:=?_))))))))));refine YR 10 (h:=fun K hK=>?_);go_simp;refine YY hK _ _ ?_ (fun XC=>?_)
 ·exact SI.o _ (by first|exact(YE _ _).drew|exact ZA (YE _ _).drew (Zq _) _)
 clear hK K;try simp only[pt]
 refine YR 11 (h:=fun K hK=>?_);refine RU Zr 202 (.tmp 6) (.tmp 28) Zr Zr w4 (XA (ZL L (⟨p,sr,(nb:Int),f⟩:Zt) 0)).toArray Zr Zr 202 _ (Z9 w4.drew _) X6 Zr (Gd _) ?_;refine Ye hK _ _ X6 ?_;clear hK K;try simp only[pt]
 refine Yt X6 ?_ _;refine QP ?_;go_upto_region 5 with fail
 have Hf:Hid (VO w ((w4.alloc (.cells (Qf 0 0 false false) 202)).drew.setRow w4 (XA (ZL L (⟨p,sr,(nb:Int),f⟩:Zt) 0)).toArray) w2 w4.heap.size k (⟨p,sr,(nb:Int),f⟩:Zt) (ZL L (⟨p,sr,(nb:Int),f⟩:Zt) 0) (.slice none 0 0) (.slice none 0 0) (.slice none 0 0) (.slice none 0 0) [] (.slice none 0 0) [] (.slice none 0 0) []):=
  have hv:w4.heap.size≠w2.heap.size:=fun e=>absurd (ZY HV4.o) Zo
  have ha:=ZA (Am w4) (Zq _) (.cells (Qf 0 0 false false) 202)
  ⟨Z0 (Tr U5 ha) U5.o.size _,by rw[setRow_other _ _ _ _ (fun e=>hv e.symm)];exact(ha.block _ (ZY HV4.o)).trans HV4.o,setRow_heap _ _ _ _ _ _ (Z9 w4.drew _),TH _ _ _ _,TH _ _ _ _,TH _ _ _ _,(fun i h=>by cases h),HGV.o,U5.o.size⟩
 clear HV4 cR U5 SI WB ry HGV HLY;generalize((w4.alloc (.cells (Qf 0 0 false false) 202)).drew.setRow w4 (XA (ZL L (⟨p,sr,(nb:Int),f⟩:Zt) 0)).toArray)=w6 at *;generalize w2.heap.size=V at *;generalize w4.heap.size=T at *;have b0:w6.cell? ⟨k,0,none⟩=some (.slice (some ⟨g,o,none⟩) L.length c):=by rw[←HOV.o,cell_of (wm.o.below Hf.o.Za).book 0];rfl
 go_wp2_with fail
 clear b0;go_loopw [35] (fun s35 w'=>∃(j:Nat) (s:VS) (wv cv qv:Value),j≤L.length+1∧s35 = .int .i64 (j:Int)∧s=ZL L (⟨p,sr,(nb:Int),f⟩:Zt) (min j L.length)∧VO w w' V T k (⟨p,sr,(nb:Int),f⟩:Zt) s wv cv qv wv ((Wn L (⟨p,sr,(nb:Int),f⟩:Zt) j).map VS.want) cv ((Wn L (⟨p,sr,(nb:Int),f⟩:Zt) j).map VS.cur) qv ((Wn L (⟨p,sr,(nb:Int),f⟩:Zt) j).map VS.quiet)) (fun s35 _=>L.length+1-(intOf s35).toNat)
 case atStart=>exact⟨0,_,_,_,_,Zo,rfl,by rw[Nat.min_eq_left (Tv _)],Hf.o⟩
 case round=>
  obtain⟨j,s,wv,cv,qv,hj,rfl,hs,ho⟩:=hrel;have HO:=Zh ho;have HS:=Zh hs;clear ho hs Hf;by_cases hjn:j<L.length+1
  ·have dj:decide ((j:Int)<(L.length:Int)+1)=true:=WV Zo;have vP:Hid (s=ZL L (⟨p,sr,(nb:Int),f⟩:Zt) j):=by show _=_;rw[HS.o,Nat.min_eq_left Zo]
   obtain⟨ws,hws⟩:∃ws,ws=(Wn L (⟨p,sr,(nb:Int),f⟩:Zt) j).map VS.want:=⟨_,rfl⟩;obtain⟨cs,Tx⟩:∃cs,cs=(Wn L (⟨p,sr,(nb:Int),f⟩:Zt) j).map VS.cur:=⟨_,rfl⟩;obtain⟨qs,hqs⟩:∃qs,qs=(Wn L (⟨p,sr,(nb:Int),f⟩:Zt) j).map VS.quiet:=⟨_,rfl⟩;have lw:ws.length≤300:=by rw[hws,Te,MU];omega
   have lc':cs.length≤300:=by rw[Tx,Te,MU];omega
   have lq:qs.length≤300:=by rw[hqs,Te,MU];omega
   rw[←hws,←Tx,←hqs]at HO;have HWS:=Zh hws;have gD:=Zh Tx;have BD:=Zh hqs;clear hws Tx hqs;obtain⟨wa,wc,rfl⟩:=Row.form (Row.Z4 HO.o.want);obtain⟨ca,cc,rfl⟩:=Row.form (Row.Z4 HO.o.cur);obtain⟨qa,qc,rfl⟩:=Row.form (Row.Z4 HO.o.quiet);obtain⟨sw,sc,sp,sm⟩:=s;go_upto_region 8 with fail
   have HO:=Zh (HO.o.below (YE _ _).drew);go_cut [] (fun wx=>∃wv' cv' qv',VO w wx V T k (⟨p,sr,(nb:Int),f⟩:Zt) ⟨sw,sc,sp,sm⟩ wv' cv' qv' wv' (ws++[sw]) cv' (cs++[sc]) qv' (qs++[sp||sm]))
   case first=>
    cases sp with
    | false=>
     refine RX ?_;refine Zj (d:=33) (S:=(fun w'=>w'.cell? ⟨V,5,none⟩=some (.slice wa ws.length wc)∧w'.cell? ⟨V,6,none⟩=some (.slice ca cs.length cc)∧w'.cell? ⟨V,7,none⟩=some (.slice qa qs.length qc)∧w'.cell? ⟨T,0,none⟩=some (.int .i64 sw)∧w'.cell? ⟨T,1,none⟩=some (.int .i64 sc)∧w'.cell? ⟨T,2,none⟩=some (.bool false)∧w'.cell? ⟨T,3,none⟩=some (.bool sm))) X6 ?_ (fun XY=>?_)
     ·exact HO.o.facts
     refine YP 0 (h:=YP 1 (h:=YP 2 (h:=YP 3 (h:=YP 4 (h:=YP 5 (h:=YP 7 (h:=YP 11 (h:=YP 12 (h:=YP 13 (h:=YP 15 (h:=YP 19 (h:=YP 20 (h:=YP 21 (h:=YP 23 (h:=YK 6 (h:=YK 8 (h:=YK 14 (h:=YK 16 (h:=YK 22 (h:=YK 24 (h:=?_)))))))))))))))))))));refine Tm (rs:=[9,17]) X6 Zi ?_;refine VX (i:=9) rfl (fun K hK=>?_) ?_
     ·skip
      refine Yg Zr WU (.tmp 46) Zr (.int .i64 sw) Zr Zr ?_;have sQ:Hid ((wr.drew.alloc (.cells #[.int .i64 sw] 3)).heap[wr.drew.heap.size]?=some (.cells #[.int .i64 sw] 3 (0,0))):=Z9 wr.drew _;have UU:=Z' wr.drew (.cells #[.int .i64 sw] 3);have HO:=Zh (HO.o.below UU);clear UU;refine YY hK _ _ ?_ (fun XC=>?_)
      ·exact HO.o.facts
      clear hK K;try simp only[pt]
      refine Tm (rs:=[10,17]) X6 Zi ?_;refine VX (i:=10) rfl (fun K hK=>?_) ?_
      ·skip
       refine WZ Zr (.tmp 44) (.tmp 47) 72 Zr w WU (.slice wa ws.length wc) ws.length (Wj ws) Zr HO.o.want ((wr.drew).heap.size) 1 1 [.int .i64 sw] Zr (row_one sQ.o) rfl Nf Zd Zo Zo HO.o.Za.size ?_;intro v10 TL nR K9 Iu;have Ms:Hid (TL.ownsRow w 3 1 v10 (ws++[sw]).length (Wj (ws++[sw]))):=oG;have HO:=Zh (HO.o.Cb K9.o Ms.o Iu.o);obtain⟨xa,xc,hx⟩:∃a c,v10 = .slice a (ws.length+1) c:=by obtain⟨a,c,h⟩:=Row.form (Row.Z4 Ms.o);exact⟨a,c,by rw[h,UC];rfl⟩
       subst hx;refine YY hK _ _ ?_ (fun Vq=>?_)
       ·exact HO.o.facts
       clear hK K;try simp only[pt]
       refine YR 17 (h:=fun K hK=>?_);refine Yg Zr WU (.tmp 54) Zr (.int .i64 sc) Zr Zr ?_;have SG:Hid ((TL.alloc (.cells #[.int .i64 sc] 3)).heap[TL.heap.size]?=some (.cells #[.int .i64 sc] 3 (0,0))):=Z9 TL _;have UU:=Z' TL (.cells #[.int .i64 sc] 3);have HO:=Zh (HO.o.below UU);clear UU;refine YY hK _ _ ?_ (fun MB=>?_)
       ·exact HO.o.facts
       clear hK K;try simp only[pt]
       refine YR 18 (h:=fun K hK=>?_);refine WZ Zr (.tmp 52) (.tmp 55) 72 Zr w WU (.slice ca cs.length cc) cs.length (Wj cs) Zr HO.o.cur ((TL).heap.size) 1 1 [.int .i64 sc] Zr (row_one SG.o) rfl Nf Zd Zo Zo HO.o.Za.size ?_;intro v18 O0 nS EH EO;have Mt:Hid (O0.ownsRow w 3 1 v18 (cs++[sc]).length (Wj (cs++[sc]))):=oF;have HO:=Zh (HO.o.Ca EH.o Mt.o EO.o);obtain⟨ya,yc,hx⟩:∃a c,v18 = .slice a (cs.length+1) c:=by obtain⟨a,c,h⟩:=Row.form (Row.Z4 Mt.o);exact⟨a,c,by rw[h,UC];rfl⟩
       subst hx;refine YY hK _ _ ?_ (fun Fm=>?_)
       ·exact HO.o.facts
       clear hK K;try simp only[pt]
       refine YP 25 (h:=YP 26 (h:=YK 27 (h:=YP 28 (h:=?_))));refine YR 29 (h:=fun K hK=>?_);refine Yg Zr Uz (.tmp 66) Zr (.bool sm) Zr Zr ?_;have EP:Hid ((O0.alloc (.cells #[.bool sm] 4)).heap[O0.heap.size]?=some (.cells #[.bool sm] 4 (0,0))):=Z9 O0 _;have UU:=Z' O0 (.cells #[.bool sm] 4);have HO:=Zh (HO.o.below UU);clear UU;refine YY hK _ _ ?_ (fun Fp=>?_)
       ·exact HO.o.facts
       clear hK K;try simp only[pt]
       refine YR 30 (h:=fun K hK=>?_);refine WZ Zr (.tmp 60) (.tmp 67) 122 Zr w Uz (.slice qa qs.length qc) qs.length (UR qs) Zr HO.o.quiet ((O0).heap.size) 1 1 [.bool sm] Zr (row_one EP.o) rfl Nf Zd Zo Zo HO.o.Za.size ?_;intro v30 mO nT wF iW;have EE:Hid (mO.ownsRow w 4 1 v30 (qs++[sm]).length (UR (qs++[sm]))):=oD;exact Yx78
      refine VX (i:=17) rfl (fun K hK=>?_) PS;refine Yg Zr WU (.tmp 54) Zr (.int .i64 sc) Zr Zr ?_;have SG:Hid (((wr.drew.alloc (.cells #[.int .i64 sw] 3)).alloc (.cells #[.int .i64 sc] 3)).heap[(wr.drew.alloc (.cells #[.int .i64 sw] 3)).heap.size]?=some (.cells #[.int .i64 sc] 3 (0,0))):=Z9 (wr.drew.alloc (.cells #[.int .i64 sw] 3)) _;have sO:Hid (∀i,(Value.slice wa ws.length wc).ownBlock=some i→i<(wr.drew.alloc (.cells #[.int .i64 sw] 3)).heap.size):=fun i hi=>RR HO.o.want hi
      have UU:=Z' (wr.drew.alloc (.cells #[.int .i64 sw] 3)) (.cells #[.int .i64 sc] 3);have sQ:=Zh ((UU.block _ (ZY sQ.o)).trans sQ.o);have HO:=Zh (HO.o.below UU);clear UU;refine YY hK _ _ ?_ (fun AH=>?_)
      ·exact HO.o.facts
      clear hK K;try simp only[pt]
      refine YR 10 (h:=fun K hK=>?_);refine WZ Zr (.tmp 44) (.tmp 47) 72 Zr w WU (.slice wa ws.length wc) ws.length (Wj ws) Zr HO.o.want ((wr.drew).heap.size) 1 1 [.int .i64 sw] Zr (row_one sQ.o) rfl Nf Zd Zo Zo HO.o.Za.size ?_;intro v10 TL nR K9 Iu;have Ms:Hid (TL.ownsRow w 3 1 v10 (ws++[sw]).length (Wj (ws++[sw]))):=oG;have SG:=Zh ((K9.o.block _ (ZY SG.o) (fun e=>absurd (sO.o _ e.symm) (Nat.lt_irrefl _))).trans SG.o);have HO:=Zh (HO.o.Cb K9.o Ms.o Iu.o);obtain⟨xa,xc,hx⟩:∃a c,v10 = .slice a (ws.length+1) c:=by obtain⟨a,c,h⟩:=Row.form (Row.Z4 Ms.o);exact⟨a,c,by rw[h,UC];rfl⟩
      subst hx;refine YY hK _ _ ?_ (fun AJ=>?_)
      ·exact HO.o.facts
      clear hK K;try simp only[pt]
      refine YR 18 (h:=fun K hK=>?_);refine WZ Zr (.tmp 52) (.tmp 55) 72 Zr w WU (.slice ca cs.length cc) cs.length (Wj cs) Zr HO.o.cur (((wr.drew.alloc (.cells #[.int .i64 sw] 3))).heap.size) 1 1 [.int .i64 sc] Zr (row_one SG.o) rfl Nf Zd Zo Zo HO.o.Za.size ?_;intro v18 O0 nS EH EO;have Mt:Hid (O0.ownsRow w 3 1 v18 (cs++[sc]).length (Wj (cs++[sc]))):=oF;have HO:=Zh (HO.o.Ca EH.o Mt.o EO.o);obtain⟨ya,yc,hx⟩:∃a c,v18 = .slice a (cs.length+1) c:=by obtain⟨a,c,h⟩:=Row.form (Row.Z4 Mt.o);exact⟨a,c,by rw[h,UC];rfl⟩
      subst hx;refine YY hK _ _ ?_ (fun AK=>?_)
      ·exact HO.o.facts
      clear hK K;try simp only[pt]
      refine YP 25 (h:=YP 26 (h:=YK 27 (h:=YP 28 (h:=?_))));refine YR 29 (h:=fun K hK=>?_);refine Yg Zr Uz (.tmp 66) Zr (.bool sm) Zr Zr ?_;have EP:Hid ((O0.alloc (.cells #[.bool sm] 4)).heap[O0.heap.size]?=some (.cells #[.bool sm] 4 (0,0))):=Z9 O0 _;have UU:=Z' O0 (.cells #[.bool sm] 4);have HO:=Zh (HO.o.below UU);clear UU;refine YY hK _ _ ?_ (fun AO=>?_)
      ·exact HO.o.facts
      clear hK K;try simp only[pt]
      refine YR 30 (h:=fun K hK=>?_);refine WZ Zr (.tmp 60) (.tmp 67) 122 Zr w Uz (.slice qa qs.length qc) qs.length (UR qs) Zr HO.o.quiet ((O0).heap.size) 1 1 [.bool sm] Zr (row_one EP.o) rfl Nf Zd Zo Zo HO.o.Za.size ?_;intro v30 mO nT wF iW;have EE:Hid (mO.ownsRow w 4 1 v30 (qs++[sm]).length (UR (qs++[sm]))):=oD;exact Yx77
     refine VX (i:=17) rfl (fun K hK=>?_) PS;refine Yg Zr WU (.tmp 54) Zr (.int .i64 sc) Zr Zr ?_;have SG:Hid ((wr.drew.alloc (.cells #[.int .i64 sc] 3)).heap[wr.drew.heap.size]?=some (.cells #[.int .i64 sc] 3 (0,0))):=Z9 wr.drew _;have sO:Hid (∀i,(Value.slice wa ws.length wc).ownBlock=some i→i<wr.drew.heap.size):=fun i hi=>RR HO.o.want hi
     have UU:=Z' wr.drew (.cells #[.int .i64 sc] 3);have HO:=Zh (HO.o.below UU);clear UU;refine YY hK _ _ ?_ (fun eY=>?_)
     ·exact HO.o.facts
     clear hK K;try simp only[pt]
     refine YR 9 (h:=fun K hK=>?_);refine Yg Zr WU (.tmp 46) Zr (.int .i64 sw) Zr Zr ?_;have sQ:Hid (((wr.drew.alloc (.cells #[.int .i64 sc] 3)).alloc (.cells #[.int .i64 sw] 3)).heap[(wr.drew.alloc (.cells #[.int .i64 sc] 3)).heap.size]?=some (.cells #[.int .i64 sw] 3 (0,0))):=Z9 (wr.drew.alloc (.cells #[.int .i64 sc] 3)) _;have UU:=Z' (wr.drew.alloc (.cells #[.int .i64 sc] 3)) (.cells #[.int .i64 sw] 3);have SG:=Zh ((UU.block _ (ZY SG.o)).trans SG.o);have HO:=Zh (HO.o.below UU);clear UU;refine YY hK _ _ ?_ (fun eZ=>?_)
     ·exact HO.o.facts
     clear hK K;try simp only[pt]
     refine YR 10 (h:=fun K hK=>?_);refine WZ Zr (.tmp 44) (.tmp 47) 72 Zr w WU (.slice wa ws.length wc) ws.length (Wj ws) Zr HO.o.want (((wr.drew.alloc (.cells #[.int .i64 sc] 3))).heap.size) 1 1 [.int .i64 sw] Zr (row_one sQ.o) rfl Nf Zd Zo Zo HO.o.Za.size ?_;intro v10 TL nR K9 Iu;have Ms:Hid (TL.ownsRow w 3 1 v10 (ws++[sw]).length (Wj (ws++[sw]))):=oG;have SG:=Zh ((K9.o.block _ (ZY SG.o) (fun e=>absurd (sO.o _ e.symm) (Nat.lt_irrefl _))).trans SG.o);have HO:=Zh (HO.o.Cb K9.o Ms.o Iu.o);obtain⟨xa,xc,hx⟩:∃a c,v10 = .slice a (ws.length+1) c:=by obtain⟨a,c,h⟩:=Row.form (Row.Z4 Ms.o);exact⟨a,c,by rw[h,UC];rfl⟩
     subst hx;refine YY hK _ _ ?_ (fun fh=>?_)
     ·exact HO.o.facts
     clear hK K;try simp only[pt]
     refine YR 18 (h:=fun K hK=>?_);refine WZ Zr (.tmp 52) (.tmp 55) 72 Zr w WU (.slice ca cs.length cc) cs.length (Wj cs) Zr HO.o.cur ((wr.drew).heap.size) 1 1 [.int .i64 sc] Zr (row_one SG.o) rfl Nf Zd Zo Zo HO.o.Za.size ?_;intro v18 O0 nS EH EO;have Mt:Hid (O0.ownsRow w 3 1 v18 (cs++[sc]).length (Wj (cs++[sc]))):=oF;have HO:=Zh (HO.o.Ca EH.o Mt.o EO.o);obtain⟨ya,yc,hx⟩:∃a c,v18 = .slice a (cs.length+1) c:=by obtain⟨a,c,h⟩:=Row.form (Row.Z4 Mt.o);exact⟨a,c,by rw[h,UC];rfl⟩
     subst hx;refine YY hK _ _ ?_ (fun fk=>?_)
     ·exact HO.o.facts
     clear hK K;try simp only[pt]
     refine YP 25 (h:=YP 26 (h:=YK 27 (h:=YP 28 (h:=?_))));refine YR 29 (h:=fun K hK=>?_);refine Yg Zr Uz (.tmp 66) Zr (.bool sm) Zr Zr ?_;have EP:Hid ((O0.alloc (.cells #[.bool sm] 4)).heap[O0.heap.size]?=some (.cells #[.bool sm] 4 (0,0))):=Z9 O0 _;have UU:=Z' O0 (.cells #[.bool sm] 4);have HO:=Zh (HO.o.below UU);clear UU;refine YY hK _ _ ?_ (fun fo=>?_)
     ·exact HO.o.facts
     clear hK K;try simp only[pt]
     refine YR 30 (h:=fun K hK=>?_);refine WZ Zr (.tmp 60) (.tmp 67) 122 Zr w Uz (.slice qa qs.length qc) qs.length (UR qs) Zr HO.o.quiet ((O0).heap.size) 1 1 [.bool sm] Zr (row_one EP.o) rfl Nf Zd Zo Zo HO.o.Za.size ?_;intro v30 mO nT wF iW;have EE:Hid (mO.ownsRow w 4 1 v30 (qs++[sm]).length (UR (qs++[sm]))):=oD;exact Yx76
    | true=>
     refine RX ?_;refine Zj (d:=33) (S:=(fun w'=>w'.cell? ⟨V,5,none⟩=some (.slice wa ws.length wc)∧w'.cell? ⟨V,6,none⟩=some (.slice ca cs.length cc)∧w'.cell? ⟨V,7,none⟩=some (.slice qa qs.length qc)∧w'.cell? ⟨T,0,none⟩=some (.int .i64 sw)∧w'.cell? ⟨T,1,none⟩=some (.int .i64 sc)∧w'.cell? ⟨T,2,none⟩=some (.bool true)∧w'.cell? ⟨T,3,none⟩=some (.bool sm))) X6 ?_ (fun XY=>?_)
     ·exact HO.o.facts
     refine YP 0 (h:=YP 1 (h:=YP 2 (h:=YP 3 (h:=YP 4 (h:=YP 5 (h:=YP 7 (h:=YP 11 (h:=YP 12 (h:=YP 13 (h:=YP 15 (h:=YP 19 (h:=YP 20 (h:=YP 21 (h:=YP 23 (h:=YK 6 (h:=YK 8 (h:=YK 14 (h:=YK 16 (h:=YK 22 (h:=YK 24 (h:=?_)))))))))))))))))))));refine Tm (rs:=[9,17]) X6 Zi ?_;refine VX (i:=9) rfl (fun K hK=>?_) ?_
     ·skip
      refine Yg Zr WU (.tmp 46) Zr (.int .i64 sw) Zr Zr ?_;have sQ:Hid ((wr.drew.alloc (.cells #[.int .i64 sw] 3)).heap[wr.drew.heap.size]?=some (.cells #[.int .i64 sw] 3 (0,0))):=Z9 wr.drew _;have UU:=Z' wr.drew (.cells #[.int .i64 sw] 3);have HO:=Zh (HO.o.below UU);clear UU;refine YY hK _ _ ?_ (fun XC=>?_)
      ·exact HO.o.facts
      clear hK K;try simp only[pt]
      refine Tm (rs:=[10,17]) X6 Zi ?_;refine VX (i:=10) rfl (fun K hK=>?_) ?_
      ·skip
       refine WZ Zr (.tmp 44) (.tmp 47) 72 Zr w WU (.slice wa ws.length wc) ws.length (Wj ws) Zr HO.o.want ((wr.drew).heap.size) 1 1 [.int .i64 sw] Zr (row_one sQ.o) rfl Nf Zd Zo Zo HO.o.Za.size ?_;intro v10 TL nR K9 Iu;have Ms:Hid (TL.ownsRow w 3 1 v10 (ws++[sw]).length (Wj (ws++[sw]))):=oG;have HO:=Zh (HO.o.Cb K9.o Ms.o Iu.o);obtain⟨xa,xc,hx⟩:∃a c,v10 = .slice a (ws.length+1) c:=by obtain⟨a,c,h⟩:=Row.form (Row.Z4 Ms.o);exact⟨a,c,by rw[h,UC];rfl⟩
       subst hx;refine YY hK _ _ ?_ (fun Vq=>?_)
       ·exact HO.o.facts
       clear hK K;try simp only[pt]
       refine YR 17 (h:=fun K hK=>?_);refine Yg Zr WU (.tmp 54) Zr (.int .i64 sc) Zr Zr ?_;have SG:Hid ((TL.alloc (.cells #[.int .i64 sc] 3)).heap[TL.heap.size]?=some (.cells #[.int .i64 sc] 3 (0,0))):=Z9 TL _;have UU:=Z' TL (.cells #[.int .i64 sc] 3);have HO:=Zh (HO.o.below UU);clear UU;refine YY hK _ _ ?_ (fun MB=>?_)
       ·exact HO.o.facts
       clear hK K;try simp only[pt]
       refine YR 18 (h:=fun K hK=>?_);refine WZ Zr (.tmp 52) (.tmp 55) 72 Zr w WU (.slice ca cs.length cc) cs.length (Wj cs) Zr HO.o.cur ((TL).heap.size) 1 1 [.int .i64 sc] Zr (row_one SG.o) rfl Nf Zd Zo Zo HO.o.Za.size ?_;intro v18 O0 nS EH EO;have Mt:Hid (O0.ownsRow w 3 1 v18 (cs++[sc]).length (Wj (cs++[sc]))):=oF;have HO:=Zh (HO.o.Ca EH.o Mt.o EO.o);obtain⟨ya,yc,hx⟩:∃a c,v18 = .slice a (cs.length+1) c:=by obtain⟨a,c,h⟩:=Row.form (Row.Z4 Mt.o);exact⟨a,c,by rw[h,UC];rfl⟩
       subst hx;refine YY hK _ _ ?_ (fun Fm=>?_)
       ·exact HO.o.facts
       clear hK K;try simp only[pt]
       refine YP 25 (h:=YT 26 (h:=YT 27 (h:=YP 28 (h:=?_))));refine YR 29 (h:=fun K hK=>?_);refine Yg Zr Uz (.tmp 66) Zr (.bool true) Zr Zr ?_;have EP:Hid ((O0.alloc (.cells #[.bool true] 4)).heap[O0.heap.size]?=some (.cells #[.bool true] 4 (0,0))):=Z9 O0 _;have UU:=Z' O0 (.cells #[.bool true] 4);have HO:=Zh (HO.o.below UU);clear UU;refine YY hK _ _ ?_ (fun Fp=>?_)
       ·exact HO.o.facts
       clear hK K;try simp only[pt]
       refine YR 30 (h:=fun K hK=>?_);refine WZ Zr (.tmp 60) (.tmp 67) 122 Zr w Uz (.slice qa qs.length qc) qs.length (UR qs) Zr HO.o.quiet ((O0).heap.size) 1 1 [.bool true] Zr (row_one EP.o) rfl Nf Zd Zo Zo HO.o.Za.size ?_;intro v30 mO nT wF iW;have EE:Hid (mO.ownsRow w 4 1 v30 (qs++[true]).length (UR (qs++[true]))):=oD;exact Yx78
      refine VX (i:=17) rfl (fun K hK=>?_) PS;refine Yg Zr WU (.tmp 54) Zr (.int .i64 sc) Zr Zr ?_;have SG:Hid (((wr.drew.alloc (.cells #[.int .i64 sw] 3)).alloc (.cells #[.int .i64 sc] 3)).heap[(wr.drew.alloc (.cells #[.int .i64 sw] 3)).heap.size]?=some (.cells #[.int .i64 sc] 3 (0,0))):=Z9 (wr.drew.alloc (.cells #[.int .i64 sw] 3)) _;have sO:Hid (∀i,(Value.slice wa ws.length wc).ownBlock=some i→i<(wr.drew.alloc (.cells #[.int .i64 sw] 3)).heap.size):=fun i hi=>RR HO.o.want hi
      have UU:=Z' (wr.drew.alloc (.cells #[.int .i64 sw] 3)) (.cells #[.int .i64 sc] 3);have sQ:=Zh ((UU.block _ (ZY sQ.o)).trans sQ.o);have HO:=Zh (HO.o.below UU);clear UU;refine YY hK _ _ ?_ (fun AH=>?_)
      ·exact HO.o.facts
      clear hK K;try simp only[pt]
      refine YR 10 (h:=fun K hK=>?_);refine WZ Zr (.tmp 44) (.tmp 47) 72 Zr w WU (.slice wa ws.length wc) ws.length (Wj ws) Zr HO.o.want ((wr.drew).heap.size) 1 1 [.int .i64 sw] Zr (row_one sQ.o) rfl Nf Zd Zo Zo HO.o.Za.size ?_;intro v10 TL nR K9 Iu;have Ms:Hid (TL.ownsRow w 3 1 v10 (ws++[sw]).length (Wj (ws++[sw]))):=oG;have SG:=Zh ((K9.o.block _ (ZY SG.o) (fun e=>absurd (sO.o _ e.symm) (Nat.lt_irrefl _))).trans SG.o);have HO:=Zh (HO.o.Cb K9.o Ms.o Iu.o);obtain⟨xa,xc,hx⟩:∃a c,v10 = .slice a (ws.length+1) c:=by obtain⟨a,c,h⟩:=Row.form (Row.Z4 Ms.o);exact⟨a,c,by rw[h,UC];rfl⟩
      subst hx;refine YY hK _ _ ?_ (fun AJ=>?_)
      ·exact HO.o.facts
      clear hK K;try simp only[pt]
      refine YR 18 (h:=fun K hK=>?_);refine WZ Zr (.tmp 52) (.tmp 55) 72 Zr w WU (.slice ca cs.length cc) cs.length (Wj cs) Zr HO.o.cur (((wr.drew.alloc (.cells #[.int .i64 sw] 3))).heap.size) 1 1 [.int .i64 sc] Zr (row_one SG.o) rfl Nf Zd Zo Zo HO.o.Za.size ?_;intro v18 O0 nS EH EO;have Mt:Hid (O0.ownsRow w 3 1 v18 (cs++[sc]).length (Wj (cs++[sc]))):=oF;have HO:=Zh (HO.o.Ca EH.o Mt.o EO.o);obtain⟨ya,yc,hx⟩:∃a c,v18 = .slice a (cs.length+1) c:=by obtain⟨a,c,h⟩:=Row.form (Row.Z4 Mt.o);exact⟨a,c,by rw[h,UC];rfl⟩
      subst hx;refine YY hK _ _ ?_ (fun AK=>?_)
      ·exact HO.o.facts
      clear hK K;try simp only[pt]
      refine YP 25 (h:=YT 26 (h:=YT 27 (h:=YP 28 (h:=?_))));refine YR 29 (h:=fun K hK=>?_);refine Yg Zr Uz (.tmp 66) Zr (.bool true) Zr Zr ?_;have EP:Hid ((O0.alloc (.cells #[.bool true] 4)).heap[O0.heap.size]?=some (.cells #[.bool true] 4 (0,0))):=Z9 O0 _;have UU:=Z' O0 (.cells #[.bool true] 4);have HO:=Zh (HO.o.below UU);clear UU;refine YY hK _ _ ?_ (fun AO=>?_)
      ·exact HO.o.facts
      clear hK K;try simp only[pt]
      refine YR 30 (h:=fun K hK=>?_);refine WZ Zr (.tmp 60) (.tmp 67) 122 Zr w Uz (.slice qa qs.length qc) qs.length (UR qs) Zr HO.o.quiet ((O0).heap.size) 1 1 [.bool true] Zr (row_one EP.o) rfl Nf Zd Zo Zo HO.o.Za.size ?_;intro v30 mO nT wF iW;have EE:Hid (mO.ownsRow w 4 1 v30 (qs++[true]).length (UR (qs++[true]))):=oD;exact Yx77
     refine VX (i:=17) rfl (fun K hK=>?_) PS;refine Yg Zr WU (.tmp 54) Zr (.int .i64 sc) Zr Zr ?_;have SG:Hid ((wr.drew.alloc (.cells #[.int .i64 sc] 3)).heap[wr.drew.heap.size]?=some (.cells #[.int .i64 sc] 3 (0,0))):=Z9 wr.drew _;have sO:Hid (∀i,(Value.slice wa ws.length wc).ownBlock=some i→i<wr.drew.heap.size):=fun i hi=>RR HO.o.want hi
     have UU:=Z' wr.drew (.cells #[.int .i64 sc] 3);have HO:=Zh (HO.o.below UU);clear UU;refine YY hK _ _ ?_ (fun eY=>?_)
     ·exact HO.o.facts
     clear hK K;try simp only[pt]
     refine YR 9 (h:=fun K hK=>?_);refine Yg Zr WU (.tmp 46) Zr (.int .i64 sw) Zr Zr ?_;have sQ:Hid (((wr.drew.alloc (.cells #[.int .i64 sc] 3)).alloc (.cells #[.int .i64 sw] 3)).heap[(wr.drew.alloc (.cells #[.int .i64 sc] 3)).heap.size]?=some (.cells #[.int .i64 sw] 3 (0,0))):=Z9 (wr.drew.alloc (.cells #[.int .i64 sc] 3)) _;have UU:=Z' (wr.drew.alloc (.cells #[.int .i64 sc] 3)) (.cells #[.int .i64 sw] 3);have SG:=Zh ((UU.block _ (ZY SG.o)).trans SG.o);have HO:=Zh (HO.o.below UU);clear UU;refine YY hK _ _ ?_ (fun eZ=>?_)
     ·exact HO.o.facts
     clear hK K;try simp only[pt]
     refine YR 10 (h:=fun K hK=>?_);refine WZ Zr (.tmp 44) (.tmp 47) 72 Zr w WU (.slice wa ws.length wc) ws.length (Wj ws) Zr HO.o.want (((wr.drew.alloc (.cells #[.int .i64 sc] 3))).heap.size) 1 1 [.int .i64 sw] Zr (row_one sQ.o) rfl Nf Zd Zo Zo HO.o.Za.size ?_;intro v10 TL nR K9 Iu;have Ms:Hid (TL.ownsRow w 3 1 v10 (ws++[sw]).length (Wj (ws++[sw]))):=oG;have SG:=Zh ((K9.o.block _ (ZY SG.o) (fun e=>absurd (sO.o _ e.symm) (Nat.lt_irrefl _))).trans SG.o);have HO:=Zh (HO.o.Cb K9.o Ms.o Iu.o);obtain⟨xa,xc,hx⟩:∃a c,v10 = .slice a (ws.length+1) c:=by obtain⟨a,c,h⟩:=Row.form (Row.Z4 Ms.o);exact⟨a,c,by rw[h,UC];rfl⟩
     subst hx;refine YY hK _ _ ?_ (fun fh=>?_)
     ·exact HO.o.facts
     clear hK K;try simp only[pt]
     refine YR 18 (h:=fun K hK=>?_);refine WZ Zr (.tmp 52) (.tmp 55) 72 Zr w WU (.slice ca cs.length cc) cs.length (Wj cs) Zr HO.o.cur ((wr.drew).heap.size) 1 1 [.int .i64 sc] Zr (row_one SG.o) rfl Nf Zd Zo Zo HO.o.Za.size ?_;intro v18 O0 nS EH EO;have Mt:Hid (O0.ownsRow w 3 1 v18 (cs++[sc]).length (Wj (cs++[sc]))):=oF;have HO:=Zh (HO.o.Ca EH.o Mt.o EO.o);obtain⟨ya,yc,hx⟩:∃a c,v18 = .slice a (cs.length+1) c:=by obtain⟨a,c,h⟩:=Row.form (Row.Z4 Mt.o);exact⟨a,c,by rw[h,UC];rfl⟩
     subst hx;refine YY hK _ _ ?_ (fun fk=>?_)
     ·exact HO.o.facts
     clear hK K;try simp only[pt]
     refine YP 25 (h:=YT 26 (h:=YT 27 (h:=YP 28 (h:=?_))));refine YR 29 (h:=fun K hK=>?_);refine Yg Zr Uz (.tmp 66) Zr (.bool true) Zr Zr ?_;have EP:Hid ((O0.alloc (.cells #[.bool true] 4)).heap[O0.heap.size]?=some (.cells #[.bool true] 4 (0,0))):=Z9 O0 _;have UU:=Z' O0 (.cells #[.bool true] 4);have HO:=Zh (HO.o.below UU);clear UU;refine YY hK _ _ ?_ (fun fo=>?_)
     ·exact HO.o.facts
     clear hK K;try simp only[pt]
     refine YR 30 (h:=fun K hK=>?_);refine WZ Zr (.tmp 60) (.tmp 67) 122 Zr w Uz (.slice qa qs.length qc) qs.length (UR qs) Zr HO.o.quiet ((O0).heap.size) 1 1 [.bool true] Zr (row_one EP.o) rfl Nf Zd Zo Zo HO.o.Za.size ?_;intro v30 mO nT wF iW;have EE:Hid (mO.ownsRow w 4 1 v30 (qs++[true]).length (UR (qs++[true]))):=oD;exact Yx76
   case rest=>
    obtain⟨w9,rfl⟩:∃W:World,W=wc:=⟨_,rfl⟩;obtain⟨wv,cv,qv,ho⟩:=hcut;clear HO;have HO:=Zh ho;clear ho;have HR:Hid (Nq w9 wv cv qv (Wn L (⟨p,sr,(nb:Int),f⟩:Zt) (j+1))):=HO.o.rows (by rw[T_,Ng,HWS.o,←vP.o];rfl) (by rw[T_,Ng,gD.o,←vP.o];rfl) (by rw[T_,Ng,BD.o,←vP.o];rfl);have G6:Hid (VB w9 V k _ _ _ _ L (⟨p,sr,(nb:Int),f⟩:Zt) wv cv qv):=VB.of wm.o HO.o.Za HO.o.view;have b0:w9.cell? ⟨k,0,none⟩=some (.slice (some ⟨g,o,none⟩) L.length c):=by rw[←HOV.o,cell_of G6.o.book 0];rfl
    have EW:Hid (ws++[sw]=(Wn L (⟨p,sr,(nb:Int),f⟩:Zt) (j+1)).map VS.want):=by show _=_;rw[T_,Ng,HWS.o,←vP.o];rfl
    have EC:Hid (cs++[sc]=(Wn L (⟨p,sr,(nb:Int),f⟩:Zt) (j+1)).map VS.cur):=by show _=_;rw[T_,Ng,gD.o,←vP.o];rfl
    have EQ:Hid (qs++[sp||sm]=(Wn L (⟨p,sr,(nb:Int),f⟩:Zt) (j+1)).map VS.quiet):=by show _=_;rw[T_,Ng,BD.o,←vP.o];rfl
    by_cases RZ:j<L.length
    ·have CN:=Zh (oC G6.o RZ (HR.o.at (NZ L (⟨p,sr,(nb:Int),f⟩:Zt) (Nat.lt_succ_self j))));have gJ:Hid (UA L (⟨p,sr,(nb:Int),f⟩:Zt) (ZL L (⟨p,sr,(nb:Int),f⟩:Zt) j) j=ZL L (⟨p,sr,(nb:Int),f⟩:Zt) (j+1)):=rfl;rw[←vP.o]at CN gJ;rw[gJ.o]at CN;have kT:w9.heap[T]?=some (.cells (Qf sw sc sp sm) 202 (0,0)):=HO.o.st;have Cj:(j:Int)<(L.length:Int):=PM.2 RZ;generalize hS2:ZL L (⟨p,sr,(nb:Int),f⟩:Zt) (j+1)=s2 at *;have Pz:=Zh hS2;clear hS2 gJ vP HS HR G6;obtain⟨tw,tc,tp,tm⟩:=s2;dsimp only[XA]at CN;go_wp2_with (first|with_reducible refine Zl kT underlying202 ?_|(go_at_call 114;refine CN.o.mono ?_;rintro e TL ⟨rfl,Ou⟩;have M7:=Zh (HO.o.below Ou);have kT2:TL.heap[T]?=some (.cells (Qf sw sc sp sm) 202 (0,0)):=M7.o.st;clear kT b0 Ou)|(with_reducible refine Zs (cells:=(Qf tw tc tp tm)) kT2 ?_))
     go_roundw
     case rel=>exact⟨j+1,⟨tw,tc,tp,tm⟩,wv,cv,qv,Zo,Zn,by rw[Nat.min_eq_left Zo,Pz.o],by rw[←EW.o,←EC.o,←EQ.o];exact M7.o.setT ⟨tw,tc,tp,tm⟩⟩
     case measure=>simp[intOf];omega
    ·have K6:j=L.length:=by omega
     have dl:decide ((j:Int)<(L.length:Int))=false:=WH Zo;have dl2:decide (j<L.length)=false:=WH Zo;clear RZ;have HJ:=Zh K6;clear K6;go_wp2_with fail
     go_roundw
     case rel=>exact⟨j+1,⟨sw,sc,sp,sm⟩,wv,cv,qv,Zo,Zn,by rw[vP.o,HJ.o,Nat.min_eq_right Zo],by rw[←EW.o,←EC.o,←EQ.o];exact HO.o⟩
     case measure=>simp[intOf];omega
  ·have K6:j=L.length+1:=by omega
   have dj:decide ((j:Int)<(L.length:Int)+1)=false:=WH Zo;have HJ:=Zh K6;clear K6 hjn;go_wp2_with fail
   go_ret;exact⟨⟨V,wv,cv,qv,rfl,VB.of wm.o HO.o.Za HO.o.view,HO.o.rows (by rw[HJ.o]) (by rw[HJ.o]) (by rw[HJ.o])⟩,HO.o.Za⟩
def B0(p s at':Int)(ls:List Zt):∀k,∀z∈X7 p s at' ls k,∃y∈ls,z=y∨z={y with fin:=at'}
 | 0,z,h=>⟨z,h,WQ rfl⟩
 | k+1,z,h=>by
  unfold X7 at h;split at h
  ·rcases List.mem_or_eq_of_mem_set h with h1|h1
   ·exact⟨z,h1,WQ rfl⟩
   ·by_cases hk:k<ls.length
    ·refine⟨ls.getD k We,?_,WG h1⟩;rw[QQ,U' hk];exact O6 hk
    ·rw[List.set_eq_of_length_le Zo]at h;exact⟨z,h,WQ rfl⟩
  ·exact B0 p s at' ls k z h
def FL{n at':Int}(h0:0≤at')(h1:at'<n):∀(ts:List Yz) (ls:List Zt),(∀z∈ls,0≤z.Mx∧z.Mx<n∧z.fin≤n)→∀z∈W8 n at' ls ts,0≤z.Mx∧z.Mx<n∧z.fin≤n
 | [],_,h=>h
 | t :: ts,ls,h=>by
  refine FL h0 h1 ts (Ym n at' ls t) fun z hz=>?_
  unfold Ym at hz;split at hz
  ·rcases EZ.1 hz with h2|h2
   ·exact h z h2
   ·rw[K4]at h2;subst h2;exact⟨h0,h1,Int.le_refl _⟩
  split at hz
  ·obtain⟨y,hy,h2|h2⟩:=B0 _ _ _ _ _ z hz
   ·rw[h2];exact h y hy
   ·rw[h2];have:=h y hy;exact⟨this.1,this.2.1,by show at'≤n;omega⟩
  ·exact h z hz
def Uh(L:List WR)(n:Nat):∀k,k≤n→∀z∈Zg L n k,0≤z.Mx∧z.Mx<n∧z.fin≤n
 | 0,_=>fun z h=>by cases h
 | k+1,hk=>FL Zo Zo _ _ (Uh L n k Zo)
def RS.bkf{w w':World}{k g b:Nat}{ov av mv lv:Value}{L:List WR}{M:List Tt}{R:Room}{ep:Int}(h:RS w w' k g b ov L L.length L.length av mv lv M R ep)(ho:Wu w' ov L):BkF w' k ov av mv lv L (Zg L L.length L.length):=by
 have h1:=Row.Z4 h.book.XR;rw[XF]at h1;exact⟨h.book.Y8,ho,h1,⟨M,Row.Z4 h.book.Kp,h.book.each,h.meds⟩,Row.Z4 h.book.P6⟩
def sY(v:Value)(L:List WR)(w:World)(hT:Xn w)(h:Wu w v L)(hL:L.length≤256) :
  Calls prog 27 #[v] w fun e w'=>(∃lv,e = .returned lv∧Row w' 59 lv (Zg L L.length L.length).length ((Zg L L.length L.length).flatMap Z5))∧Below w w w':=by
 have C:=Zh (JS v L w hT h hL);clear hT h hL;go_enter func27,ntmps27;go_wp2_with (go_at_call 53;refine C.o.mono ?_;rintro e w2 ⟨k,g,b,ov,av,mv,lv,M,R,ep,rfl,-,Ty⟩;have Ab:=Zh Ty;have k3:w2.cell? ⟨k,3,none⟩=some lv:=(Zc Ty.book.Y8 3 rfl);clear Ty)
 go_ret;exact⟨⟨lv,rfl,Row.Z4 Ab.o.book.P6⟩,Ab.o.Za⟩
def Ld(v:Value)(L:List WR)(x:Zt)(w:World)(hT:Xn w)(h:Wu w v L)(hL:L.length≤256)(hx:x ∉ Zg L L.length L.length) :
  Calls prog 55 #[v,.agg (Z5 x).toArray] w fun e w'=>e = .returned (.pointer none)∧Below w w w':=by
 have HLK:=Zh (Uh L L.length L.length (Zq _));have HX:=Zh hx;have Rq:Hid ((w.alloc (.cells (Z5 x).toArray 59)).heap[w.heap.size]?=some (.cells (Z5 x).toArray 59 (0,0))):=Z9 w _;have U_:Hid (Below w w (w.alloc (.cells (Z5 x).toArray 59))):=Z' w _;have CR0:=Zh (fun(w':World) (hb:Below w w w')=>JS v L w' (Utf8Tabs_below hT hb) (h.below hb) hL);have HL:=Zh hL;clear hx hT h hL;obtain⟨p,sr,b,f⟩:=x;dsimp only[Z5]at Rq U_ ⊢;go_enter func55,ntmps55;go_upto_region 1 with fail
 generalize w.alloc (.cells (Qb p sr b f) 59)=w1 at *;have Zv:Hid (∀w',Below w1 w1 w'→w'.rangeAt w 0 (Qb p sr b f)∧Below w1 w1 w'):=fun w' hb=>⟨fun m v hm=>by rw[PA,cell_of ((hb.block _ (ZY Rq.o)).trans Rq.o) m];simpa using hm,hb⟩
 have CR:=Zh (CR0.o w1.drew (U_.o.trans ((YE w1 w1).drew.mono U_.o.size)));clear CR0;refine RX ?_;refine Zj (d:=3) (S:=(fun w'=>w'.rangeAt w 0 (Qb p sr b f)∧Below w1 w1 w')) X6 ?_ (fun _=>?_)
 ·exact Zv.o _ (YE _ _).drew
 refine YP 0 (h:=?_);refine tk 2 ?_ rfl ?_ <| ?_
 rotate_left
 ·exact aU
 try simp only[pt]
 refine YR 1 (h:=fun K hK=>?_);go_simp;refine CR.o.mono ?_;rintro e w2 ⟨k,g,b',ov,av,mv,lv,M,R,ep,rfl,ho,Ty⟩;have HF:=Zh (Ty.bkf ho);have Yc:=Zh ((YE w1 w1).drew.trans Ty.Za);clear ho Ty;go_wp2_with fail
 refine YY hK _ _ ?_ (fun _=>?_)
 ·exact Zv.o _ (by first|with_reducible exact Yc.o|with_reducible exact(YE _ _).drew)
 clear hK K;try simp only[pt]
 refine YR 3 (h:=fun K hK=>?_);go_simp;refine(ou HF.o _ HX.o).mono ?_;rintro e w3 ⟨rfl,WM⟩;have WB:=Zh WM;clear WM;go_wp2_with fail
 refine Ye hK _ _ X6 ?_;clear hK K;try simp only[pt]
 refine YP 4 (h:=?_);refine Yt X6 ?_ _;refine QP ?_;go_wp2_with fail
 go_ret;exact⟨rfl,U_.o.trans ((Tr Yc WB.o).mono U_.o.size)⟩
def Le(v:Value)(L:List WR)(x:Zt)(w:World)(hT:Xn w)(h:Wu w v L)(hL:L.length≤256)(hx:x∈Zg L L.length L.length) :
  Calls prog 55 #[v,.agg (Z5 x).toArray] w fun e w'=>(∃V k ov av mv lv wv cv qv,e = .returned (.pointer (some ⟨V,0,none⟩))∧VB w' V k ov av mv lv L x wv cv qv∧Nq w' wv cv qv (Wn L x (L.length+1)))∧Below w w w':=by
 have HLK:=Zh (Uh L L.length L.length (Zq _));have HX:=Zh hx;have Rq:Hid ((w.alloc (.cells (Z5 x).toArray 59)).heap[w.heap.size]?=some (.cells (Z5 x).toArray 59 (0,0))):=Z9 w _;have U_:Hid (Below w w (w.alloc (.cells (Z5 x).toArray 59))):=Z' w _;have CR0:=Zh (fun(w':World) (hb:Below w w w')=>JS v L w' (Utf8Tabs_below hT hb) (h.below hb) hL);have HL:=Zh hL;clear hx hT h hL;obtain⟨p,sr,b,f⟩:=x;dsimp only[Z5]at Rq U_ ⊢;go_enter func55,ntmps55;go_upto_region 1 with fail
 generalize w.alloc (.cells (Qb p sr b f) 59)=w1 at *;have Zv:Hid (∀w',Below w1 w1 w'→w'.rangeAt w 0 (Qb p sr b f)∧Below w1 w1 w'):=fun w' hb=>⟨fun m v hm=>by rw[PA,cell_of ((hb.block _ (ZY Rq.o)).trans Rq.o) m];simpa using hm,hb⟩
 have CR:=Zh (CR0.o w1.drew (U_.o.trans ((YE w1 w1).drew.mono U_.o.size)));clear CR0;refine RX ?_;refine Zj (d:=3) (S:=(fun w'=>w'.rangeAt w 0 (Qb p sr b f)∧Below w1 w1 w')) X6 ?_ (fun _=>?_)
 ·exact Zv.o _ (YE _ _).drew
 refine YP 0 (h:=?_);refine tk 2 ?_ rfl ?_ <| ?_
 rotate_left
 ·exact aU
 try simp only[pt]
 refine YR 1 (h:=fun K hK=>?_);go_simp;refine CR.o.mono ?_;rintro e w2 ⟨k,g,b',ov,av,mv,lv,M,R,ep,rfl,ho,Ty⟩;have HF:=Zh (Ty.bkf ho);have Yc:=Zh ((YE w1 w1).drew.trans Ty.Za);clear ho Ty;go_wp2_with fail
 refine YY hK _ _ ?_ (fun _=>?_)
 ·exact Zv.o _ (by first|with_reducible exact Yc.o|with_reducible exact(YE _ _).drew)
 clear hK K;try simp only[pt]
 refine YR 3 (h:=fun K hK=>?_);go_simp;refine(oz HF.o HL.o _ HX.o (HLK.o _ HX.o).1 (HLK.o _ HX.o).2.1).mono ?_;rintro e w3 ⟨⟨V,wv,cv,qv,rfl,lu,lA⟩,WM⟩;have WB:=Zh WM;have G6:=Zh lu;have HVR:=Zh lA;clear WM lu lA;go_wp2_with fail
 refine Ye hK _ _ X6 ?_;clear hK K;try simp only[pt]
 refine YP 4 (h:=?_);refine Yt X6 ?_ _;refine QP ?_;go_wp2_with fail
 go_ret;exact⟨⟨V,_,_,_,_,_,wv,cv,qv,rfl,G6.o,HVR.o⟩,U_.o.trans ((Tr Yc WB.o).mono U_.o.size)⟩
def Gp(L:List WR)(x:Zt)(at':Int):Int:=if x∈Zg L L.length L.length then(if there x at' then(ZL L x at'.toNat).want else -1)else -1
def JY(L:List WR)(x:Zt)(at':Int):Int:=if x∈Zg L L.length L.length then(if there x at' then(ZL L x at'.toNat).cur else -1)else -1
def jf(v:Value)(L:List WR)(x:Zt)(at':Int)(w:World)(hT:Xn w)(h:Wu w v L)(hL:L.length≤256) :
  Calls prog 35 #[v,.agg (Z5 x).toArray,.int .i64 at'] w fun e w'=>e = .returned (.int .i64 (JY L x at'))∧Below w w w':=by
 have Rq:Hid (Below w w (w.alloc (.cells (Z5 x).toArray 59))):=Z' w _;have hz:(w.alloc (.cells (Z5 x).toArray 59)).heap[w.heap.size]?=some (.cells (Z5 x).toArray 59 (0,0)):=Z9 w _;have HX:Hid (JY L x at'=if x∈Zg L L.length L.length then(if there x at' then(ZL L x at'.toNat).cur else -1)else -1):=rfl;generalize JY L x at'=X at *;by_cases hx:x∈Zg L L.length L.length
 ·have V9:=Uh L L.length L.length (Zq _) x hx;have CV:=Zh (Le v L x (w.alloc (.cells (Z5 x).toArray 59)) (Utf8Tabs_below hT Rq.o) (h.below Rq.o) hL hx);have Vc:Hid (X=if there x at' then(ZL L x at'.toNat).cur else -1):=by show _=_;rw[HX.o,ZU hx]
  have H0:=Zh V9.1;have H1:=Zh V9.2.2;clear hx V9 HX hT h hL;obtain⟨p,sr,b,f⟩:=x;dsimp only[Z5]at CV Rq hz ⊢;go_enter func35,ntmps35;go_wp2_with (first|with_reducible refine Zl hz underlying59 ?_|(go_at_call 55;refine CV.o.mono ?_;rintro e w2 ⟨⟨V,k,ov,av,mv,lv,wv,cv,qv,rfl,lu,lA⟩,Y7⟩;have Yc:=Zh (Tr Rq Y7);have CW:=Zh (ji V k L _ wv cv qv w2 lu.view lA H0.o H1.o at');rw[←Vc.o]at CW;clear lu lA Y7)|(go_at_call 65;refine CW.o.mono ?_;rintro e w' ⟨rfl,rfl⟩))
  go_ret;exact⟨rfl,Yc.o⟩
 ·have CV:=Zh (Ld v L x (w.alloc (.cells (Z5 x).toArray 59)) (Utf8Tabs_below hT Rq.o) (h.below Rq.o) hL hx);have Vc:Hid (X=-1):=by show _=_;rw[HX.o,Z3 hx]
  clear hx HX hT h hL;obtain⟨p,sr,b,f⟩:=x;dsimp only[Z5]at CV Rq hz ⊢;go_enter func35,ntmps35;go_wp2_with (first|with_reducible refine Zl hz underlying59 ?_|(go_at_call 55;refine CV.o.mono ?_;rintro e w2 ⟨rfl,Y7⟩;have Yc:=Zh (Tr Rq Y7);have CW:=Zh (jk w2 at');clear Y7)|(go_at_call 65;refine CW.o.mono ?_;rintro e w' ⟨rfl,rfl⟩))
  go_ret;exact⟨by rw[Vc.o];rfl,Yc.o⟩
def QY(L:List WR)(x:Zt)(at':Int):Bool:=if x∈Zg L L.length L.length then(if there x at' then(ZL L x at'.toNat).quiet else true)else true
def sZ(v:Value)(L:List WR)(x:Zt)(at':Int)(w:World)(hT:Xn w)(h:Wu w v L)(hL:L.length≤256) :
  Calls prog 33 #[v,.agg (Z5 x).toArray,.int .i64 at'] w fun e w'=>e = .returned (.bool (QY L x at'))∧Below w w w':=by
 have Rq:Hid (Below w w (w.alloc (.cells (Z5 x).toArray 59))):=Z' w _;have hz:(w.alloc (.cells (Z5 x).toArray 59)).heap[w.heap.size]?=some (.cells (Z5 x).toArray 59 (0,0)):=Z9 w _;have HX:Hid (QY L x at'=if x∈Zg L L.length L.length then(if there x at' then(ZL L x at'.toNat).quiet else true)else true):=rfl;generalize QY L x at'=X at *;by_cases hx:x∈Zg L L.length L.length
 ·have V9:=Uh L L.length L.length (Zq _) x hx;have CV:=Zh (Le v L x (w.alloc (.cells (Z5 x).toArray 59)) (Utf8Tabs_below hT Rq.o) (h.below Rq.o) hL hx);have Vc:Hid (X=if there x at' then(ZL L x at'.toNat).quiet else true):=by show _=_;rw[HX.o,ZU hx]
  have H0:=Zh V9.1;have H1:=Zh V9.2.2;clear hx V9 HX hT h hL;obtain⟨p,sr,b,f⟩:=x;dsimp only[Z5]at CV Rq hz ⊢;go_enter func33,ntmps33;go_wp2_with (first|with_reducible refine Zl hz underlying59 ?_|(go_at_call 55;refine CV.o.mono ?_;rintro e w2 ⟨⟨V,k,ov,av,mv,lv,wv,cv,qv,rfl,lu,lA⟩,Y7⟩;have Yc:=Zh (Tr Rq Y7);have CW:=Zh (tB V k L _ wv cv qv w2 lu.view lA H0.o H1.o at');rw[←Vc.o]at CW;clear lu lA Y7)|(go_at_call 64;refine CW.o.mono ?_;rintro e w' ⟨rfl,rfl⟩))
  go_ret;exact⟨rfl,Yc.o⟩
 ·have CV:=Zh (Ld v L x (w.alloc (.cells (Z5 x).toArray 59)) (Utf8Tabs_below hT Rq.o) (h.below Rq.o) hL hx);have Vc:Hid (X=true):=by show _=_;rw[HX.o,Z3 hx]
  clear hx HX hT h hL;obtain⟨p,sr,b,f⟩:=x;dsimp only[Z5]at CV Rq hz ⊢;go_enter func33,ntmps33;go_wp2_with (first|with_reducible refine Zl hz underlying59 ?_|(go_at_call 55;refine CV.o.mono ?_;rintro e w2 ⟨rfl,Y7⟩;have Yc:=Zh (Tr Rq Y7);have CW:=Zh (tC w2 at');clear Y7)|(go_at_call 64;refine CW.o.mono ?_;rintro e w' ⟨rfl,rfl⟩))
  go_ret;exact⟨by rw[Vc.o];rfl,Yc.o⟩
def Kj{L:List WR}{x:Zt}{at':Int}(h:(decide (x∈Zg L L.length L.length)&&there x at')=true):∃a b:Nat,x.Mx=a∧at'=b∧a<b∧(b:Int)≤x.fin∧x.fin≤L.length∧b≤L.length∧x.peer≠0∧Gp L x at'=(ZL L x b).want∧JY L x at'=(ZL L x b).cur∧QY L x at'=(ZL L x b).quiet:=by
 rw[UN,Su]at h;obtain⟨h1,h2⟩:=h;have h3:=Uh L L.length L.length (Zq _) x h1;have h4:=(NQ L L.length (Zq _) x h1).1;have h5:=h2;unfold there at h5;rw[UN,Su,Su]at h5;obtain⟨a,ha⟩:=RV h3.1;obtain⟨b,hb⟩:=RV (show 0≤at' by omega);refine⟨a,b,ha,hb,Zo,Zo,h3.2.2,Zo,Zo,?_⟩;unfold Gp JY QY;rw[ZU h1,ZU h1,ZU h1,ZU h2,ZU h2,ZU h2,hb,Wi];exact⟨rfl,rfl,rfl⟩
def yH{L:List WR}{x:Zt}{at':Int}(h:(decide (x∈Zg L L.length L.length)&&there x at')=false):Gp L x at'=-1∧JY L x at'=-1∧QY L x at'=true:=by
 unfold Gp JY QY;by_cases h1:x∈Zg L L.length L.length
 ·rw[WV h1,Bool.true_and]at h;rw[ZU h1,ZU h1,ZU h1,h];exact⟨rfl,rfl,rfl⟩
 ·rw[Z3 h1,Z3 h1,Z3 h1];exact⟨rfl,rfl,rfl⟩
def wantR{w:World}{k:Nat}{L:List WR}(h:vR w k L)(x:Zt)(at':Int):Calls prog 32 (Qu (some ⟨k,0,none⟩) (Z5 x).toArray at') w fun e w'=>e = .returned (.int .i64 (Gp L x at'))∧Below w w w':=by
 have CI:=Zh (fun(w':World) (hb:Below w w w')=>(h.below hb).is x at');cases hB:(decide (x∈Zg L L.length L.length)&&there x at')with
 | false=>
  obtain⟨HW,-,-⟩:=yH hB;rw[hB]at CI;rw[HW];clear hB HW;obtain⟨xp,xs,xb,xf⟩:=x;dsimp only[Z5]at *;have hz:=Z9 w (.cells (Qb xp xs xb xf) 59);have HB:Hid (Below w w (w.alloc (.cells (Qb xp xs xb xf) 59))):=Z' w _;have HZ:=Zh hz;clear hz h;go_enter func32,ntmps32;exact Yt7
 | true=>
  obtain⟨a,b,e1,e2,Ry,hbf,hf,hbL,hp,HW,-,-⟩:=Kj hB;have CD:=Zh (fun(w':World) (hb:Below w w w') (j:Nat) (hj:j<L.length)=>(h.below hb).done hj 12 x.peer x.source);obtain⟨g,o,c,g1,o1,c1,g2,o2,c2,lC⟩:=h.cells Zo;have HY:=Zh lC;have hLL:=h.1;rw[hB]at CI;rw[HW];have GY:Hid (∀j,j<b→a<j→Zf L j 12 x.peer x.source=true→(∀i,j<i→i<b→Zf L i 12 x.peer x.source=false)→(ZL L x b).want=(opAt L j).ZC):=fun j h1 h2 h3 h4=>mP hp h1 (by unfold Wk;rw[WV Zo,WV Zo];rfl) h3 (fun i q1 q2 _=>h4 i q1 q2)
  have NON:Hid ((∀i,a<i→i<b→Zf L i 12 x.peer x.source=false)→(ZL L x b).want=(opAt L a).ZC):=fun h4=>by
   have:=qT (L:=L) (x:=x) hp (b:=b) (fun j h1 h2=>h4 j (by unfold Wk at h2;rw[UN,Su]at h2;omega) h1);rw[this,e1,Wi]
  clear hB HW hp lC;generalize(ZL L x b).want=W at *;obtain⟨xp,xs,xb,xf⟩:=x;dsimp only[Z5]at *;subst e1;subst e2;have hmin:min (b:Int) xf=b:=by omega
  have hz:=Z9 w (.cells (Qb xp xs (a:Int) xf) 59);have HB:Hid (Below w w (w.alloc (.cells (Qb xp xs (a:Int) xf) 59))):=Z' w _;have HZ:=Zh hz;clear hz h;go_enter func32,ntmps32;go_wp2_with (first|with_reducible refine Zl HZ.o underlying59 ?_|(go_at_call 57;refine(CI.o _ HB.o).mono ?_;rintro e w2 ⟨rfl,Y7⟩;have Yc:Hid (Below w w w2):=Tr HB Y7;have vQ:=Zh ((Y7.block _ (ZY HZ.o)).trans HZ.o);have x3:w2.cell? ⟨w,3,none⟩=some (.int .i64 xf):=(Zc vQ.o 3 rfl);clear Y7))
  clear x3 hmin;go_loopw [7] (fun s7 w'=>∃j:Nat,a≤j∧j<b∧s7 = .int .i64 (j:Int)∧Below w2 w2 w'∧∀i,j<i→i<b→Zf L i 12 xp xs=false) (fun s7 _=>(intOf s7).toNat)
  case atStart=>exact⟨b-1,Zo,Zo,by rw[Int.ofNat_sub Zo];rfl,YE _ _,fun i h1 h2=>by omega⟩
  case round=>
   obtain⟨j,h1,h2,rfl,Xp,N_⟩:=hrel;have sK:Hid (Below w w wr):=Tr Yc Xp;have TF:=(Xp.block _ (ZY vQ.o)).trans vQ.o;have x0:wr.cell? ⟨w,0,none⟩=some (.int .i64 xp):=Zc TF 0 rfl;have x1:wr.cell? ⟨w,1,none⟩=some (.int .i64 xs):=Zc TF 1 rfl;have x2:wr.cell? ⟨w,2,none⟩=some (.int .i64 (a:Int)):=Zc TF 2 rfl;have Iq:=Zh N_;have HBM0:=Zh Xp;clear N_ TF Xp;by_cases tR:a<j
   ·have hajI:(a:Int)<(j:Int):=PM.2 tR;have hjL:(j:Int)<(L.length:Int):=by omega
    have vY:=CD.o _ sK.o j Zo;have HIJ:=Zh (GY.o j h2 tR);have HLT:=Zh (show j<L.length by omega);have ir:=Zh tR;have HJB:=Zh h2;clear tR;cases hd:Zf L j 12 xp xs with
    | true=>
     rw[hd]at vY;have vY:=Zh vY;have HE:=Zh (HIJ.o hd Iq.o);clear hd HIJ;go_wp2_with (go_at_call 63;refine vY.o.mono ?_;rintro e w3 ⟨rfl,WM⟩;have WB:Hid (Below w w w3):=Tr sK WM;have y0:=(HY.o.below WB.o).c0;have y1:=(HY.o.below WB.o).lay j HLT.o;clear WM)
     go_ret;exact⟨by rw[HE.o];rfl,WB.o⟩
    | false=>
     rw[hd]at vY;have vY:=Zh vY;have HD:=Zh hd;clear hd HIJ;go_wp2_with (go_at_call 63;refine vY.o.mono ?_;rintro e w3 ⟨rfl,WM⟩;have WB:=Zh WM;clear WM)
     go_roundw
     case rel=>exact⟨j-1,by have:=ir.o;omega,Zo,by rw[Int.ofNat_sub (by have:=ir.o;omega)];rfl,Tr HBM0 WB.o,fun i q1 q2=>by
      by_cases q:i=j
      ·rw[q];exact HD.o
      ·exact Iq.o i Zo q2⟩
     case measure=>have:=ir.o;simp[intOf];omega
   ·have hja:j=a:=by omega
    subst hja;have HE:=NON.o Iq.o;have y0:=(HY.o.below sK.o).c0;have y1:=(HY.o.below sK.o).lay j Zo;have hjL:(j:Int)<(L.length:Int):=by omega
    have HE:=Zh HE;go_upto_region 8 with fail
    go_quiet (fail)
    go_wp2_with fail
    go_ret;exact⟨by rw[HE.o];rfl,below_drewN sK.o _⟩
def mg{w:World}{k:Nat}{L:List WR}(h:vR w k L)(x:Zt)(at':Int):Calls prog 34 (Qu (some ⟨k,0,none⟩) (Z5 x).toArray at') w fun e w'=>e = .returned (.bool (QY L x at'))∧Below w w w':=by
 have CI:=Zh (fun(w':World) (hb:Below w w w')=>(h.below hb).is x at');cases hB:(decide (x∈Zg L L.length L.length)&&there x at')with
 | false=>
  obtain⟨-,-,HW⟩:=yH hB;rw[hB]at CI;rw[HW];clear hB HW;obtain⟨xp,xs,xb,xf⟩:=x;dsimp only[Z5]at *;have hz:=Z9 w (.cells (Qb xp xs xb xf) 59);have HB:Hid (Below w w (w.alloc (.cells (Qb xp xs xb xf) 59))):=Z' w _;have HZ:=Zh hz;clear hz h;go_enter func34,ntmps34;exact Yt7
 | true=>
  obtain⟨a,b,e1,e2,Ry,hbf,hf,hbL,hp,-,-,HW⟩:=Kj hB;have CD:=Zh (fun(w':World) (hb:Below w w w') (j:Nat) (hj:j<L.length) (kd pr:Int)=>(h.below hb).done hj kd pr x.source);have hLL:=h.1;rw[hB]at CI;rw[HW];have hl:∀j:Nat,a<j→j<b→Wk x j=true:=fun j h1 h2=>by unfold Wk;rw[WV Zo,WV Zo];rfl
  have Q1:Hid (∀j,j<b→a<j→Zf L j 10 x.peer x.source=true→(∀i,j<i→i<b→Zf L i 10 x.peer x.source=false∧Zf L i 11 x.peer x.source=false)→(ZL L x b).quiet=true):=fun j h1 h2 h3 h4=>by unfold VS.quiet;rw[uH hp h1 (hl j h2 h1) h3 (fun i q1 q2 _=>h4 i q1 q2)];rfl
  have Q2:Hid (∀j,j<b→a<j→Zf L j 11 x.peer x.source=true→(∀i,j<i→i<b→Zf L i 10 x.peer x.source=false∧Zf L i 11 x.peer x.source=false)→(ZL L x b).ZV=false):=fun j h1 h2 h3 h4=>yS hp h1 (hl j h2 h1) h3 (fun i q1 q2 _=>h4 i q1 q2)
  have Q3:Hid ((∀i,a<i→i<b→Zf L i 10 x.peer x.source=false∧Zf L i 11 x.peer x.source=false)→(ZL L x b).ZV=false):=fun h4=>yL hp (fun j h1 h2=>h4 j (by unfold Wk at h2;rw[UN,Su]at h2;omega) h1)
  have M1:Hid (∀j,j<b→Zf L j 8 0 x.source=true→(∀i,j<i→i<b→Zf L i 8 0 x.source=false∧Zf L i 9 0 x.source=false∧Zf L i 4 0 x.source=false)→(ZL L x b).quiet=true):=fun j h1 h3 h4=>by unfold VS.quiet;rw[p8 h1 h3 (fun i q1 q2=>h4 i q1 q2),Bool.or_true]
  have M2:Hid (∀j,j<b→(Zf L j 9 0 x.source=true∨Zf L j 4 0 x.source=true)→(∀i,j<i→i<b→Zf L i 8 0 x.source=false∧Zf L i 9 0 x.source=false∧Zf L i 4 0 x.source=false)→(ZL L x b).ZJ=false):=fun j h1 h3 h4=>zD h1 h3 (fun i q1 q2=>h4 i q1 q2)
  have M3:Hid ((∀i,i<b→Zf L i 8 0 x.source=false∧Zf L i 9 0 x.source=false∧Zf L i 4 0 x.source=false)→(ZL L x b).ZJ=false):=fun h4=>uA (fun j h1=>h4 j h1)
  have QF:Hid ((ZL L x b).ZV=false→(ZL L x b).ZJ=false→(ZL L x b).quiet=false):=fun h1 h2=>by unfold VS.quiet;rw[h1,h2];rfl
  clear hB HW hp hl;generalize(ZL L x b).quiet=Q at *;generalize(ZL L x b).ZV=PZ at *;generalize(ZL L x b).ZJ=MZ at *;obtain⟨xp,xs,xb,xf⟩:=x;dsimp only[Z5]at *;subst e1;subst e2;have hz:=Z9 w (.cells (Qb xp xs (a:Int) xf) 59);have HB:Hid (Below w w (w.alloc (.cells (Qb xp xs (a:Int) xf) 59))):=Z' w _;have HZ:=Zh hz;clear hz h;go_enter func34,ntmps34
  go_upto_block 0 with(first|with_reducible refine Zl HZ.o underlying59 ?_|(go_at_call 57;refine(CI.o _ HB.o).mono ?_;rintro e w2 ⟨rfl,Y7⟩;have Yc:Hid (Below w w w2):=Tr HB Y7;have vQ:=Zh ((Y7.block _ (ZY HZ.o)).trans HZ.o);clear Y7))
  go_cut [7] (fun s7 wy=>Hid (PZ=false)∧Below w2 w2 wy)
  case first=>
   go_wp2_with fail
   go_loopw [7] (fun s7 w'=>∃j:Nat,a≤j∧j<b∧s7 = .int .i64 (j:Int)∧Below w2 w2 w'∧∀i,j<i→i<b→Zf L i 10 xp xs=false∧Zf L i 11 xp xs=false) (fun s7 _=>(intOf s7).toNat)
   case atStart=>exact⟨b-1,Zo,Zo,by rw[Int.ofNat_sub Zo];rfl,YE _ _,fun i h1 h2=>by omega⟩
   case round=>
    obtain⟨j,h1,h2,rfl,Xp,N_⟩:=hrel;have sK:=Zh Xp;have nN:Hid (Below w w wr):=Tr Yc Xp;have TF:=(Xp.block _ (ZY vQ.o)).trans vQ.o;have x0:wr.cell? ⟨w,0,none⟩=some (.int .i64 xp):=Zc TF 0 rfl;have x1:wr.cell? ⟨w,1,none⟩=some (.int .i64 xs):=Zc TF 1 rfl;have x2:wr.cell? ⟨w,2,none⟩=some (.int .i64 (a:Int)):=Zc TF 2 rfl;have Iq:=Zh N_;clear N_ TF Xp;by_cases tR:a<j
    ·have hajI:(a:Int)<(j:Int):=PM.2 tR;have ir:=Zh tR;have HJB:=Zh h2;have vY:=fun w' hb=>CD.o w' hb j Zo 10 xp
     have nL:=fun w' hb=>CD.o w' hb j Zo 11 xp
     have QJ:=Q1.o j h2 tR;have QK:=Q2.o j h2 tR;clear tR;cases hd:Zf L j 10 xp xs with
     | true=>
      rw[hd]at vY;have vY:=Zh (vY _ nN.o);have HE:=Zh (QJ hd Iq.o);clear hd QJ QK nL;go_wp2_with (go_at_call 63;refine vY.o.mono ?_;rintro e w3 ⟨rfl,WM⟩;have WB:Hid (Below w w w3):=Tr nN WM;clear WM)
      go_ret;exact⟨by rw[HE.o];rfl,WB.o⟩
     | false=>
      rw[hd]at vY;have vY:=Zh (vY _ nN.o);have nL:=Zh nL;have HD:=Zh hd;have QK:=Zh QK;clear hd QJ;go_upto_region 8 with(go_at_call 63;refine vY.o.mono ?_;rintro e w3 ⟨rfl,WM⟩;have WB:Hid (Below w w w3):=Tr nN WM;have HM3:Hid (Below w2 w2 w3):=Tr sK WM;have x0:=ZM x0 WM;have x1:=ZM x1 WM;clear WM)
      have nL:=nL.o w3 WB.o;cases hd:Zf L j 11 xp xs with
      | true=>
       rw[hd]at nL;have nL:=Zh nL;have HE:=Zh (QK.o hd Iq.o);clear hd;go_wp2_with (go_at_call 63;refine nL.o.mono ?_;rintro e w4 ⟨rfl,S0⟩;have di:Hid (Below w2 w2 w4):=Tr HM3 S0;clear S0)
       go_meet;exact⟨HE,di.o⟩
      | false=>
       rw[hd]at nL;have nL:=Zh nL;have HF:=Zh hd;clear hd;go_wp2_with (go_at_call 63;refine nL.o.mono ?_;rintro e w4 ⟨rfl,S0⟩;have di:Hid (Below w2 w2 w4):=Tr HM3 S0;clear S0)
       go_roundw
       case rel=>exact⟨j-1,by have:=ir.o;omega,Zo,by rw[Int.ofNat_sub (by have:=ir.o;omega)];rfl,di.o,fun i q1 q2=>by
        by_cases q:i=j
        ·rw[q];exact⟨HD.o,HF.o⟩
        ·exact Iq.o i Zo q2⟩
       case measure=>have:=ir.o;simp[intOf];omega
    ·have hja:j=a:=by omega
     subst hja;have HE:=Zh (Q3.o Iq.o);go_wp2_with fail
     go_meet;exact⟨HE,sK.o⟩
  case rest=>
   obtain⟨HPZ,hb⟩:=hcut;have HBC:Hid (Below w w wc):=Tr Yc hb;have HZC:=Zh ((hb.block _ (ZY vQ.o)).trans vQ.o);clear hb Q1 Q2 Q3;go_wp2_with fail
   go_loopw [8] (fun s8 w'=>∃(m:Nat) (i:Int),m≤b∧i=(m:Int)-1∧s8 = .int .i64 i∧Below wc wc w'∧∀i,m≤i→i<b→Zf L i 8 0 xs=false∧Zf L i 9 0 xs=false∧Zf L i 4 0 xs=false) (fun s8 _=>(intOf s8+1).toNat)
   case atStart=>exact⟨b,_,Zo,rfl,rfl,YE _ _,fun i h1 h2=>by omega⟩
   case round=>
    obtain⟨m,i,h1,hi,rfl,Xp,N_⟩:=hrel;have sK:=Zh Xp;have nN:Hid (Below w w wr):=Tr HBC Xp;have TF:=(Xp.block _ (ZY HZC.o)).trans HZC.o;have x1:wr.cell? ⟨w,1,none⟩=some (.int .i64 xs):=Zc TF 1 rfl;have Iq:=Zh N_;clear N_ TF Xp;rcases m with _|j
    ·have e:i=-1:=by omega
     subst e;have HE:=Zh (M3.o (fun i h=>Iq.o i (Tv _) h));clear hi;go_wp2_with fail
     go_ret;exact⟨by rw[QF.o HPZ.o HE.o];rfl,nN.o⟩
    ·have e:i=(j:Int):=by omega
     subst e;clear hi;have h1:j<b:=by omega
     have h0I:(0:Int)≤(j:Int):=by omega
     have ag:=CD.o _ nN.o j Zo 8 0;have hU:=Zh (fun w' hb=>CD.o w' hb j Zo 9 0);have CD4:=Zh (fun w' hb=>CD.o w' hb j Zo 4 0);have MJ:=Zh (M1.o j h1);have MK:=Zh (M2.o j h1);cases hd:Zf L j 8 0 xs with
     | true=>
      rw[hd]at ag;have ag:=Zh ag;have HE:=Zh (MJ.o hd Iq.o);clear hd;go_wp2_with (go_at_call 63;refine ag.o.mono ?_;rintro e w3 ⟨rfl,WM⟩;have WB:Hid (Below w w w3):=Tr nN WM;clear WM)
      go_ret;exact⟨by rw[HE.o];rfl,WB.o⟩
     | false=>
      rw[hd]at ag;have ag:=Zh ag;have HD:=Zh hd;clear hd;go_upto_region 14 with(go_at_call 63;refine ag.o.mono ?_;rintro e w3 ⟨rfl,WM⟩;have WB:Hid (Below w w w3):=Tr nN WM;have HM3:Hid (Below wc wc w3):=Tr sK WM;have x1:=ZM x1 WM;clear WM)
      have hU:=hU.o w3 WB.o;cases hd9:Zf L j 9 0 xs with
      | true=>
       rw[hd9]at hU;have hU:=Zh hU;have HE:=Zh (MK.o (WQ hd9) Iq.o);clear hd9;go_wp2_with (go_at_call 63;refine hU.o.mono ?_;rintro e w4 ⟨rfl,S0⟩;have U5:Hid (Below w w w4):=Tr WB S0;clear S0)
       go_ret;exact⟨by rw[QF.o HPZ.o HE.o];rfl,U5.o⟩
      | false=>
       rw[hd9]at hU;have hU:=Zh hU;have ax:=Zh hd9;clear hd9;cases fC:Zf L j 4 0 xs with
       | true=>
        have CD4:=Zh (fun w' hb=>fC▸CD4.o w' hb);have HE:=Zh (MK.o (WG fC) Iq.o);clear fC;go_wp2_with (go_at_call 63;first|((with_reducible refine hU.o.mono ?_);rintro e w4 ⟨rfl,S0⟩;have U5:Hid (Below w w w4):=Tr WB S0;have x1:=ZM x1 S0;clear S0)|((with_reducible refine(CD4.o _ U5.o).mono ?_);rintro e w5 ⟨rfl,Nu⟩;have PD:Hid (Below w w w5):=Tr U5 Nu;clear Nu))
        go_ret;exact⟨by rw[QF.o HPZ.o HE.o];rfl,PD.o⟩
       | false=>
        have CD4:=Zh (fun w' hb=>fC▸CD4.o w' hb);have HD4:=Zh fC;clear fC;go_wp2_with (go_at_call 63;first|((with_reducible refine hU.o.mono ?_);rintro e w4 ⟨rfl,S0⟩;have U5:Hid (Below w w w4):=Tr WB S0;have di:Hid (Below wc wc w4):=Tr HM3 S0;have x1:=ZM x1 S0;clear S0)|((with_reducible refine(CD4.o _ U5.o).mono ?_);rintro e w5 ⟨rfl,Nu⟩;have HM5:Hid (Below wc wc w5):=Tr di Nu;clear Nu))
        go_roundw
        case rel=>exact⟨j,_,Zo,rfl,rfl,HM5.o,fun i q1 q2=>by
         by_cases q:i=j
         ·rw[q];exact⟨HD.o,ax.o,HD4.o⟩
         ·exact Iq.o i Zo q2⟩
        case measure=>simp[intOf]
def cI{w:World}{k:Nat}{L:List WR}(h:vR w k L)(x:Zt){j:Nat}(hl:Wk x j=true)(hj:j<L.length):Calls prog 59 (Qu (some ⟨k,0,none⟩) (Z5 x).toArray (j:Int)) w fun e w'=>e = .returned (.bool (YU L x j))∧Below w w w':=by
 obtain⟨g,o,c,g1,o1,c1,g2,o2,c2,lC⟩:=h.cells Zo;have hLL:=h.1;have HP:Hid (YU L x j=(((Z6 L j).XR.kind==1)&&((Z6 L j).XR.source==x.source))):=by show _=_;unfold YU;rw[hl];rfl
 unfold Wk at hl;rw[UN,Su,Su]at hl;obtain⟨hl1,hl2⟩:=hl;obtain⟨xp,xs,xb,xf⟩:=x;dsimp only[Z5]at *;have HB:Hid (Below w w (w.alloc (.cells (Qb xp xs xb xf) 59))):=Z' w _;have hz:=Z9 w (.cells (Qb xp xs xb xf) 59);have HY:=lC.below HB.o;have y0:=HY.c1;have y1:=HY.kd j hj;have y2:=HY.so j hj;have Cj:(j:Int)<(L.length:Int):=PM.2 hj;clear h lC HY;generalize YU L ⟨xp,xs,xb,xf⟩ j=P at *;generalize(Z6 L j).XR.kind=K at *;generalize(Z6 L j).XR.source=S at *;go_enter func59,ntmps59;go_upto_region 1 with fail
 generalize w.alloc (.cells (Qb xp xs xb xf) 59)=w1 at *;have x1:w1.cell? ⟨w,1,none⟩=some (.int .i64 xs):=Zc hz 1 rfl;have x2:w1.cell? ⟨w,2,none⟩=some (.int .i64 xb):=Zc hz 2 rfl;have x3:w1.cell? ⟨w,3,none⟩=some (.int .i64 xf):=Zc hz 3 rfl;clear hz;cases hk:(K==1)
 ·go_quiet (fail)
  go_wp2_with fail
  go_ret;exact⟨by rw[HP.o,hk];rfl,below_drewN HB.o _⟩
 ·cases hs:(S==xs)
  all_goals
   go_quiet (fail)
   go_wp2_with fail
   go_ret;exact⟨by rw[HP.o,hk,hs];rfl,below_drewN HB.o _⟩
def Xu(e:ED):List Value:=(Qp e.event e.seq e.time e.Yi e.frame e.sw)
def Ax:Elem prog 61 70 6 32:=⟨underlying61,⟨.agg (Qp 0 0 0 0 0 false),by kernel_rfl,rfl⟩,by decide⟩
def qU(n:Int) : -32768≤IntKind.i16.wrap n∧IntKind.i16.wrap n<32768:=by
 simp only[IntKind.wrap,IntKind.bits,IntKind.signed];simp;split <;> omega
def ig(a b:Int)(w:World):Calls prog 67 (Qz a b) w fun e w'=>e = .returned (.int .i64 (Us a b))∧w=w':=by
 have HX:Hid (Us a b=IntKind.i16.wrap (IntKind.u16.wrap (a-b))):=rfl;have h1:=qU (IntKind.u16.wrap (a-b));have hw:IntKind.i64.wrap (IntKind.i16.wrap (IntKind.u16.wrap (a-b)))=IntKind.i16.wrap (IntKind.u16.wrap (a-b)):=SZ _ Zo;generalize Us a b=X at *;clear h1;go_enter func67,ntmps67;go_wp2;go_ret;exact⟨by rw[HX.o];rfl,rfl⟩
def nI(a b:Int)(w:World):Calls prog 38 (Qz a b) w fun e w'=>e = .returned (.bool (decide (0<Us a b)))∧w=w':=by
 have CD:=Zh (ig a b w);generalize Us a b=d at *;go_enter func38,ntmps38;go_wp2_with (go_at_call 67;refine CD.o.mono ?_;rintro e w' ⟨rfl,rfl⟩)
 go_ret;exact⟨rfl,rfl⟩
section
variable {w:World} {V k:Nat} {ov av mv lv:Value} {L:List WR} {x:Zt} {wv cv qv:Value}
def jV{a:Option Addr}{n c:Nat}{l:List ED}(h:Row w 70 (.slice a n c) n (l.flatMap Xu)){m:Nat}(hm:m<l.length):∃g o,a=some ⟨g,o,none⟩∧w.cell? ⟨g,o+m*6,none⟩=some (.int .i64 (l.getD m Ks).event)∧w.cell? ⟨g,o+m*6+2,none⟩=some (.int .u32 (l.getD m Ks).time):=by
 obtain⟨g,o,e,h2⟩:=UI Xu 6 (fun _=>rfl) h Zo;have hz:l[m]?=some (l.getD m Ks):=by rw[QQ,U' hm];rfl
 exact⟨g,o,e,h2 m _ hz 0 Zo,h2 m _ hz 2 Zo⟩
def IA(h:VB w V k ov av mv lv L x wv cv qv){j:Nat}(hj:j<L.length){s:VS}(hs:aK w wv cv qv j s)(ea:Option Addr)(ec:Nat)(l:List ED)(z1 z2 z3:Int)(hr:Row w 70 (.slice ea l.length ec) l.length (l.flatMap Xu))(he:∀e∈l,0≤e.event∧e.event<L.length)(hl:l.length≤1000) :
  Calls prog 90 (Qu (some ⟨V,0,none⟩) (Qy ea l.length ec z1 z2 z3) (j:Int)) w fun e w'=>e = .returned (.bool (Oo L s l j))∧Below w w w':=by
 obtain⟨g,o,c,a1,n1,c1,a2,n2,c2,a3,n3,c3,kJ,hm⟩:=I1 h hj;subst kJ;obtain⟨g2,o2,m2,d2,G9,l2,e2⟩:=hs.cur;subst G9;have hVl:=ZY h.view;have Vz:=ZY h.book;have v0:w.cell? ⟨V,0,none⟩=some (.pointer (some ⟨k,0,none⟩)):=Zc h.view 0 rfl;have v6:w.cell? ⟨V,6,none⟩=some (.slice (some ⟨g2,o2,none⟩) m2 d2):=Zc h.view 6 rfl;have b2:w.cell? ⟨k,2,none⟩=some (.slice (some ⟨g,o,none⟩) L.length c):=Zc h.book 2 rfl;have HX:Hid (Oo L s l j=(decide ((Z6 L j).WI.ZC=s.cur) && !decide (l.length=0)&&decide (0<Us (Z6 L j).XM.seq (Z6 L (U4 l).event.toNat).XM.seq))):=rfl;have Cj:(j:Int)<(L.length:Int):=PM.2 hj;have i2:(j:Int)<(m2:Int):=PM.2 l2;have iI:=Zh (fun(q:Nat) (hq:q<L.length)=>I1 h hq);have HKB:Hid (∀w',Below w w w'→w'.cell? ⟨V,0,none⟩=some (.pointer (some ⟨k,0,none⟩))∧w'.cell? ⟨k,2,none⟩=some (.slice (some ⟨g,o,none⟩) L.length c)):=fun w' hb=>⟨ZM v0 hb,ZM b2 hb⟩
 clear h hs;generalize Oo L s l j=X at *;generalize s.cur=cu at *;have U_:Hid (Below w w (w.alloc (.cells (Qy ea l.length ec z1 z2 z3) 162))):=Z' w _;have vX:(w.alloc (.cells (Qy ea l.length ec z1 z2 z3) 162)).heap[w.heap.size]?=some (.cells (Qy ea l.length ec z1 z2 z3) 162 (0,0)):=Z9 w _;have kF:(w.alloc (.cells (Qy ea l.length ec z1 z2 z3) 162)).rangeAt g (o+j*15) (Qg (Z6 L j).XM.Xq (Z6 L j).XM.type (Z6 L j).XM.seq (Z6 L j).XM.time (Z6 L j).XM.Yi a1 n1 c1 (Z6 L j).XM.Xo (Z6 L j).XM.XZ a2 n2 c2 a3 n3 c3 (Z6 L j).XM.pad (Z6 L j).WI.ZC (Z6 L j).WI.key (Z6 L j).WI.start (Z6 L j).WI.frame):=fun m v hv=>ZM (hm m v hv) U_.o
 have hz:((w.alloc (.cells (Qy ea l.length ec z1 z2 z3) 162)).alloc (.cells Tu 97)).heap[w.heap.size+1]?=some (.cells Tu 97 (0,0)):=by
  have h:=Z9 (w.alloc (.cells (Qy ea l.length ec z1 z2 z3) 162)) (.cells Tu 97);rw[size_alloc]at h;exact h
 generalize(Z6 L j).XM=P at *;generalize(Z6 L j).WI=D at *;have WB:Hid (Below w w (((w.alloc (.cells (Qy ea l.length ec z1 z2 z3) 162)).alloc (.cells Tu 97)).setRow (w.heap.size+1) (Jw P.Xq P.type P.seq P.time P.Yi a1 n1 c1 P.Xo P.XZ a2 n2 c2 a3 n3 c3 P.pad D))):=Z0 (ZA U_.o (Zq _) _) (JV _) _;have SA:=setRow_heap _ _ _ (Jw P.Xq P.type P.seq P.time P.Yi a1 n1 c1 P.Xo P.XZ a2 n2 c2 a3 n3 c3 P.pad D) _ _ hz
 have ry:Hid ((((w.alloc (.cells (Qy ea l.length ec z1 z2 z3) 162)).alloc (.cells Tu 97)).setRow (w.heap.size+1) (Jw P.Xq P.type P.seq P.time P.Yi a1 n1 c1 P.Xo P.XZ a2 n2 c2 a3 n3 c3 P.pad D)).heap[w.heap.size]?=some (.cells (Qy ea l.length ec z1 z2 z3) 162 (0,0))):=by
  show _=_;rw[setRow_other _ _ _ _ Zo,(Z' (w.alloc (.cells (Qy ea l.length ec z1 z2 z3) 162)) _).block _ (ZY vX)];exact vX
 clear hm vX U_;go_enter func90,ntmps90;go_upto_region 2 with(first|with_reducible refine Zm kF underlying97 ?_|(with_reducible refine Zs (cells:=(Jw P.Xq P.type P.seq P.time P.Yi a1 n1 c1 P.Xo P.XZ a2 n2 c2 a3 n3 c3 P.pad D)) hz ?_))
 clear hz kF v0 b2;have KC:Hid (∀(g o:Nat) (u:Value),w.cell? ⟨g,o,none⟩=some u→(((w.alloc (.cells (Qy ea l.length ec z1 z2 z3) 162)).alloc (.cells Tu 97)).setRow (w.heap.size+1) (Jw P.Xq P.type P.seq P.time P.Yi a1 n1 c1 P.Xo P.XZ a2 n2 c2 a3 n3 c3 P.pad D)).cell? ⟨g,o,none⟩=some u):=fun g o u hc=>ZM hc WB.o
 replace v6:=KC.o _ _ _ v6;replace e2:=KC.o _ _ _ e2;have KB:Hid (∀w',Below w w w'→w'.cell? ⟨V,0,none⟩=some (.pointer (some ⟨k,0,none⟩))∧w'.cell? ⟨k,2,none⟩=some (.slice (some ⟨g,o,none⟩) L.length c)):=HKB.o;generalize(((w.alloc (.cells (Qy ea l.length ec z1 z2 z3) 162)).alloc (.cells Tu 97)).setRow (w.heap.size+1) (Jw P.Xq P.type P.seq P.time P.Yi a1 n1 c1 P.Xo P.XZ a2 n2 c2 a3 n3 c3 P.pad D))=w3 at *;have y11:w3.cell? ⟨w.heap.size+1,11,none⟩=some (.int .i64 D.ZC):=Zc SA 11 rfl;have y2:w3.cell? ⟨w.heap.size+1,2,none⟩=some (.int .u16 P.seq):=Zc SA 2 rfl;have k0:w3.cell? ⟨w,0,none⟩=some (.slice ea l.length ec):=Zc ry.o 0 rfl;have HK:=Zh (KB.o _ WB.o);clear SA ry KB HKB;by_cases h1:D.ZC=cu
 rotate_left
 ·have f1:(D.ZC !=cu)=true:=by rw[Rs];exact h1
  go_quiet (fail)
  have U5:=Zh (below_drewN WB.o nq);go_wp2_with fail
  go_ret;exact⟨by rw[HX.o,WH h1];rfl,U5.o⟩
 have f1:(D.ZC !=cu)=false:=by rw[bne_eq_false_iff_eq];exact h1
 have H1:=Zh h1;clear h1;by_cases h2:l.length=0
 ·have f2:((l.length:Int)==0)=true:=by rw[beq_iff_eq];omega
  have H2:=Zh h2;clear h2;go_quiet (fail)
  have U5:=Zh (below_drewN WB.o nq);go_wp2_with fail
  go_ret;exact⟨by rw[HX.o,WV H2.o];simp,U5.o⟩
 have f2:((l.length:Int)==0)=false:=by rw[Wz];omega
 obtain⟨m,hm⟩:∃m,l.length=m+1:=⟨l.length-1,Zo⟩;obtain⟨ge,oe,fD,x0,-⟩:=jV (m:=m) hr Zo;subst fD
 have x7:l.getD m Ks∈l:=by
  rw[QQ,U' (by omega:m<l.length)];exact O6 _
 have LQ:=he _ x7;have cj:U4 l=l.getD m Ks:=by unfold U4;rw[hm];rfl
 rw[cj]at HX;generalize l.getD m Ks=E at *;obtain⟨q,hq⟩:∃q:Nat,E.event=(q:Int):=⟨E.event.toNat,Zo⟩;rw[hq]at x0 HX LQ;have hqL:q<L.length:=by omega
 have Mb:Hid (X=decide (0<Us P.seq (Z6 L q).XM.seq)):=by
  show _=_;rw[HX.o,WV H1.o,WH h2];rfl
 obtain⟨g',o',c',b1,r1,s1,b2',r2,s2,b3,r3,s3,Ey,hmq⟩:=iI.o q hqL;cases Ey;have x2:=KC.o _ _ _ (OP hmq 2 rfl);replace x0:=KC.o _ _ _ x0;have hqI:(q:Int)<(L.length:Int):=PM.2 hqL;have CA:=Zh (fun(w':World)=>nI P.seq (Z6 L q).XM.seq w');generalize Us P.seq (Z6 L q).XM.seq=df at *;have gZ:IntKind.i64.wrap ((l.length:Int)-1)=(m:Int):=by rw[SZ _ Zo];omega
 have nD:(m:Int)<(l.length:Int):=by omega
 have hmN:m<l.length:=by omega
 have HM:=Zh hm;clear HX H1 h2 hr he x7 LQ cj hq iI hmq KC hm;go_quiet (fail)
 have U5:=Zh (below_drewN WB.o nq);have HK4:Hid ((w3.drewN nq).cell? ⟨V,0,none⟩=some (.pointer (some ⟨k,0,none⟩))∧(w3.drewN nq).cell? ⟨k,2,none⟩=some (.slice (some ⟨g,o,none⟩) L.length c)):=HK.o;have x0':(w3.drewN nq).cell? ⟨ge,oe+m*6,none⟩=some (.int .i64 (q:Int)):=x0;have x2':(w3.drewN nq).cell? ⟨g,o+q*15+2,none⟩=some (.int .u16 (Z6 L q).XM.seq):=x2;have gA:(w3.drewN nq).cell? ⟨w.heap.size+1,2,none⟩=some (.int .u16 P.seq):=y2;have k0':(w3.drewN nq).cell? ⟨w,0,none⟩=some (.slice (some ⟨ge,oe,none⟩) l.length ec):=k0;clear x0 x2 y2 k0 y11 v6 e2 HK WB;generalize w3.drewN nq=w4 at *;obtain⟨v0,b2⟩:=HK4.o;go_upto_region 5 with fail
 go_quiet ((go_at_call 38;exact Calls.quiet_of_same ((CA.o _).mono fun e w' ⟨a,b⟩=>⟨a,b.symm⟩)))
 have PD:=Zh (below_drewN U5.o nq);go_wp2_with fail
 go_ret;exact⟨by rw[Mb.o];rfl,PD.o⟩
end
structure SO(w w':World)(K:Nat)(z:tq)(o0 ov:Value):Prop where
 Za:Below w w w'
 Y8:w'.heap[K]?=some (.cells #[o0,.int .i64 z.opn,.int .u32 z.begin,.int .u16 z.WK] 162 (0,0))
 own:w'.ownsRow w 70 6 ov z.o.length (z.o.flatMap Xu)
 ge:w.heap.size≤K
section
variable {w w1 w2:World} {K:Nat} {z:tq} {o0 ov:Value}
def SO.below(h:SO w w1 K z o0 ov)(hb:Below w1 w1 w2):SO w w2 K z o0 ov:=⟨h.Za.trans (hb.mono h.Za.size),(hb.block _ (ZY h.Y8)).trans h.Y8,Yq h.own hb,h.ge⟩
def SO.facts(h:SO w w1 K z o0 ov):w1.cell? ⟨K,0,none⟩=some o0∧w1.cell? ⟨K,1,none⟩=some (.int .i64 z.opn)∧w1.cell? ⟨K,2,none⟩=some (.int .u32 z.begin)∧w1.cell? ⟨K,3,none⟩=some (.int .u16 z.WK):=
 ⟨Zc h.Y8 0 rfl,Zc h.Y8 1 rfl,Zc h.Y8 2 rfl,Zc h.Y8 3 rfl⟩
def SO.set(h:SO w w1 K z o0 ov)(o:Nat)(u:Value)(z':tq)(o0':Value)(hz:z'.o=z.o)(hs:[o0,.int .i64 z.opn,.int .u32 z.begin,.int .u16 z.WK].set o u=[o0',.int .i64 z'.opn,.int .u32 z'.begin,.int .u16 z'.WK]):SO w (w1.setCell ⟨K,o,none⟩ u) K z' o0' ov:=by
 have h2:=Vu h.Y8 o u;rw[List.setIfInBounds_toArray,hs]at h2;refine⟨((Fr.Z8 Pj h.Za).setCell (p:=⟨K,o,none⟩) (WQ h.ge) _).below,h2,?_,h.ge⟩;rw[hz];refine XO h.own (fun i hi=>L8 w1 ⟨K,o,none⟩ u i (fun e=>?_));have e:i=K:=e;subst e;exact Y0 h.own Zd _ _ _ hi h.Y8
def SO.grow(h:SO w w1 K z o0 ov)(hg:w1.grownBy w2 ov.ownBlock){ov':Value}{l:List ED}(ho:w2.ownsRow w 70 6 ov' l.length (l.flatMap Xu)):SO w w2 K {z with o:=l} o0 ov':=
 ⟨((Fr.Z8 Pj h.Za).grown hg h.Za.size (YG h.own)).below,(hg.block _ (ZY h.Y8) (fun e=>Y0 h.own Zd _ _ _ e.symm h.Y8)).trans h.Y8,ho,h.ge⟩
end
def eJ(e:ED):∀u∈Xu e,u.oneCell'=true:=by
 intro u hu;simp only[Xu,K5,List.mem_nil_iff,or_false]at hu;rcases hu with rfl|rfl|rfl|rfl|rfl|rfl <;> rfl
section
variable {w:World} {V k:Nat} {ov av mv lv:Value} {L:List WR} {x:Zt} {wv cv qv:Value}
def Oc(h:VB w V k ov av mv lv L x wv cv qv){j:Nat}(hj:j<L.length)(hL:L.length≤256){s:VS}(hs:aK w wv cv qv j s)(K:Nat)(z:tq)(uv:Value)(w1:World)(nE:SO w w1 K z uv uv)(V9:ER j z) :
  Calls prog 91 #[.pointer (some ⟨V,0,none⟩),.pointer (some ⟨K,0,none⟩),.int .i64 (j:Int)] w1 fun e w2=>e = .returned (.tuple #[])∧∃hH,SO w w2 K (QC L x s z j) hH hH:=by
 obtain⟨g,o,c,a1,n1,c1,a2,n2,c2,a3,n3,c3,kJ,hm⟩:=I1 h hj;subst kJ;have CN0:=Zh (fun(w':World) (hb:Below w w w')=>Td (h.below hb) hj (hs.below hb));have HV:=Zh h.view;have wm:=Zh h.book;have iI:=Zh (fun(q:Nat) (hq:q<L.length)=>I1 h hq);have HRDY:=Zh (yQ V9);have hlen:=V9.len;have HX:Hid (QC L x s z j={Tj z j (Wx s (Z6 L j).WI) (Z6 L j).WI.start with o:=z.o++[oY L x (Tj z j (Wx s (Z6 L j).WI) (Z6 L j).WI.start) j (Wx s (Z6 L j).WI)]}):=rfl;have Cj:(j:Int)<(L.length:Int):=PM.2 hj;clear h hs V9;generalize QC L x s z j=X at *;obtain⟨xp,xs,xb,xf⟩:=x;dsimp only at HV;have HEM:Hid (∀r op,oY L ⟨xp,xs,xb,xf⟩ r j op=⟨j,IntKind.u16.wrap r.o.length,IntKind.u32.wrap (IntKind.u32.wrap ((Z6 L j).XM.time-(Z6 L r.opn.toNat).XM.time)+r.begin),Xl xp xs,IntKind.u16.wrap (r.WK-1),op⟩):=fun _ _=>rfl
 generalize Wx s (Z6 L j).WI=op at *;have AW:w1.rangeAt g (o+j*15) (Qg (Z6 L j).XM.Xq (Z6 L j).XM.type (Z6 L j).XM.seq (Z6 L j).XM.time (Z6 L j).XM.Yi a1 n1 c1 (Z6 L j).XM.Xo (Z6 L j).XM.XZ a2 n2 c2 a3 n3 c3 (Z6 L j).XM.pad (Z6 L j).WI.ZC (Z6 L j).WI.key (Z6 L j).WI.start (Z6 L j).WI.frame):=fun m v hv=>ZM (hm m v hv) nE.Za
 generalize(Z6 L j).XM=P at *;generalize(Z6 L j).WI=D at *;have hz:=Z9 w1 (.cells Tu 97);have iT:Hid (SO w ((w1.alloc (.cells Tu 97)).setRow w1 (Jw P.Xq P.type P.seq P.time P.Yi a1 n1 c1 P.Xo P.XZ a2 n2 c2 a3 n3 c3 P.pad D)) K z uv uv):=nE.below (Z0 (Z' w1 _) (Zq _) _);have HT2:Hid (((w1.alloc (.cells Tu 97)).setRow w1 (Jw P.Xq P.type P.seq P.time P.Yi a1 n1 c1 P.Xo P.XZ a2 n2 c2 a3 n3 c3 P.pad D)).heap[w1.heap.size]?=some (.cells (Jw P.Xq P.type P.seq P.time P.Yi a1 n1 c1 P.Xo P.XZ a2 n2 c2 a3 n3 c3 P.pad D) 97 (0,0))):=setRow_heap _ _ _ (Jw P.Xq P.type P.seq P.time P.Yi a1 n1 c1 P.Xo P.XZ a2 n2 c2 a3 n3 c3 P.pad D) _ _ hz;have v0:w1.cell? ⟨V,0,none⟩=some (.pointer (some ⟨k,0,none⟩)):=by rw[cell_of ((nE.Za.block _ (ZY HV.o)).trans HV.o) 0];rfl
 have b2:w1.cell? ⟨k,2,none⟩=some (.slice (some ⟨g,o,none⟩) L.length c):=by rw[cell_of ((nE.Za.block _ (ZY wm.o)).trans wm.o) 2];rfl
 clear hm nE;go_enter func91,ntmps91;go_upto_region 1 with(first|with_reducible refine Zm AW underlying97 ?_|(with_reducible refine Zs (cells:=(Jw P.Xq P.type P.seq P.time P.Yi a1 n1 c1 P.Xo P.XZ a2 n2 c2 a3 n3 c3 P.pad D)) hz ?_))
 clear hz AW v0 b2;generalize((w1.alloc (.cells Tu 97)).setRow w1 (Jw P.Xq P.type P.seq P.time P.Yi a1 n1 c1 P.Xo P.XZ a2 n2 c2 a3 n3 c3 P.pad D))=w2 at *;generalize w1.heap.size=T at *;obtain⟨out,opn,eF,st0⟩:=z;obtain⟨ua,uc,rfl⟩:=Row.form (Row.Z4 iT.o.own);dsimp only at HX HRDY hlen iT;have CN:=Zh (CN0.o w2 iT.o.Za);clear CN0;go_upto_if 22 with(go_at_call 89;refine CN.o.mono ?_;rintro e w3 ⟨rfl,WM⟩;have Ac:=Zh (iT.o.below WM);have aH:Hid (w3.heap[T]?=some (.cells (Jw P.Xq P.type P.seq P.time P.Yi a1 n1 c1 P.Xo P.XZ a2 n2 c2 a3 n3 c3 P.pad D) 97 (0,0))):=(WM.block _ (ZY HT2.o)).trans HT2.o;clear WM iT HT2)
 go_cut [] (fun wx=>SO w wx K ⟨out,if op then j else opn,if op then(if 0<out.length then IntKind.u32.wrap ((U4 out).time+3000)else eF)else eF,st0⟩ (.slice ua out.length uc) (.slice ua out.length uc)∧wx.heap[T]?=some (.cells (Jw P.Xq P.type P.seq P.time P.Yi a1 n1 c1 P.Xo P.XZ a2 n2 c2 a3 n3 c3 P.pad D) 97 (0,0)))
 case first=>
  cases op with
  | false=>
   go_wp2_with fail
   go_meet;exact⟨Ac.o,aH.o⟩
  | true=>
   obtain⟨u0,u1,u2,u3⟩:=Ac.o.facts;have f1:=ZP Ac.o.Y8 1;have f2:=ZP Ac.o.Y8 2
   have hKT:T≠K:=fun e=>by
    have h1:=aH.o;rw[e,Ac.o.Y8]at h1;injection h1 with h1
    injection h1 with _ h1
    exact absurd h1 Zd
   by_cases hl:0<out.length
   ·obtain⟨m,hm⟩:∃m,out.length=m+1:=⟨out.length-1,Zo⟩;obtain⟨ge,oe,fD,-,x2⟩:=jV (m:=m) (Row.Z4 Ac.o.own) (by show m<out.length;omega);subst fD;have HLA:Hid (U4 out=out.getD m Ks):=by show _=_;unfold U4;rw[hm];rfl
    have gZ:IntKind.i64.wrap ((out.length:Int)-1)=(m:Int):=by rw[SZ _ Zo];omega
    have nD:(m:Int)<(out.length:Int):=by omega
    have hmN:m<out.length:=by omega
    have dl:decide (0<(out.length:Int))=true:=WV Zo;have hl1:((out.length:Int)-1)=(m:Int):=by omega
    have HH:Hid (0<out.length):=hl;dsimp only at x2;generalize out.getD m Ks=E at *;clear hm hl;go_wp2_with fail
    go_meet;rw[ZU trivial,ZU trivial,ZU HH.o,HLA.o,Nr];exact⟨(Ac.o.set 1 (.int .i64 (j:Int)) ⟨out,j,eF,st0⟩ _ rfl rfl).set 2 _ ⟨out,j,(E.time+3000)%4294967296,st0⟩ _ rfl rfl,(L8 _ ⟨K,2,none⟩ _ T hKT).trans ((L8 _ ⟨K,1,none⟩ _ T hKT).trans aH.o)⟩
   ·have dl:decide (0<(out.length:Int))=false:=WH Zo;have dl2:decide (0<out.length)=false:=WH hl;have HH:Hid (¬0<out.length):=hl;clear hl;go_wp2_with fail
    go_meet;rw[ZU trivial,ZU trivial,Z3 HH.o];exact⟨Ac.o.set 1 (.int .i64 (j:Int)) ⟨out,j,eF,st0⟩ _ rfl rfl,(L8 _ ⟨K,1,none⟩ _ T hKT).trans aH.o⟩
 case rest=>
  obtain⟨w4,rfl⟩:∃W:World,W=wc:=⟨_,rfl⟩;have nZ:=Zh hcut.1;have HT4:=Zh hcut.2;clear hcut Ac aH;have hrd:=(HRDY.o op D.start).1;have HXR:Hid (∀st,Tj ⟨out,opn,eF,st0⟩ j op st=⟨out,if op then j else opn,if op then(if 0<out.length then IntKind.u32.wrap ((U4 out).time+3000)else eF)else eF,if st then IntKind.u16.wrap (st0+1)else st0⟩):=fun _=>rfl
  rw[HXR.o]at hrd;dsimp only at hrd;generalize(if op then(if 0<out.length then IntKind.u32.wrap ((U4 out).time+3000)else eF)else eF)=bg at *;generalize hq:(if op then(j:Int)else opn)=oq at *;obtain⟨q,rfl⟩:∃q:Nat,oq=(q:Int):=⟨oq.toNat,Zo⟩;have hqL:q<L.length:=by omega
  clear hrd HRDY hq;have y13:w4.cell? ⟨T,13,none⟩=some (.bool D.start):=Zc HT4.o 13 rfl;go_upto_if 50 with fail
  clear y13;go_cut [] (fun wx=>SO w wx K ⟨out,q,bg,if D.start then IntKind.u16.wrap (st0+1)else st0⟩ (.slice ua out.length uc) (.slice ua out.length uc)∧wx.heap[T]?=some (.cells (Jw P.Xq P.type P.seq P.time P.Yi a1 n1 c1 P.Xo P.XZ a2 n2 c2 a3 n3 c3 P.pad D) 97 (0,0)))
  case first=>
   have hKT:T≠K:=fun e=>by
    have h1:=HT4.o;rw[e,nZ.o.Y8]at h1;injection h1 with h1
    injection h1 with _ h1
    exact absurd h1 Zd
   obtain⟨u0,u1,u2,u3⟩:=nZ.o.facts;have f3:=ZP nZ.o.Y8 3;dsimp only at u3;obtain⟨dly,dke,dst,dfm⟩:=D;cases dst with
   | false=>
    go_wp2_with fail
    go_meet;exact⟨nZ.o,HT4.o⟩
   | true=>
    go_wp2_with fail
    go_meet;rw[ZU trivial];exact⟨nZ.o.set 3 _ ⟨out,q,bg,IntKind.u16.wrap (st0+1)⟩ _ rfl rfl,(L8 _ ⟨K,3,none⟩ _ T hKT).trans HT4.o⟩
  case rest=>
   obtain⟨w5,rfl⟩:∃W:World,W=wc:=⟨_,rfl⟩;have wR:=Zh (hcut.1.below (YE _ _).drew);have HT5:Hid (w5.drew.heap[T]?=some (.cells (Jw P.Xq P.type P.seq P.time P.Yi a1 n1 c1 P.Xo P.XZ a2 n2 c2 a3 n3 c3 P.pad D) 97 (0,0))):=hcut.2;clear hcut nZ HT4;have HXF:Hid (X=⟨out++[oY L ⟨xp,xs,xb,xf⟩ ⟨out,q,bg,if D.start then IntKind.u16.wrap (st0+1)else st0⟩ j op],q,bg,if D.start then IntKind.u16.wrap (st0+1)else st0⟩):=by show _=_;rw[HX.o,HXR.o]
   rw[HEM.o]at HXF;generalize(if D.start then IntKind.u16.wrap (st0+1)else st0)=nH at *;dsimp only at HXF;rw[Wi]at HXF;obtain⟨g',o',c',b1,r1,s1,b2',r2,s2,b3,r3,s3,Ey,hmq⟩:=iI.o q hqL;cases Ey;have HTQ:Hid (w.cell? ⟨g,o+q*15+3,none⟩=some (.int .u32 (Z6 L q).XM.time)):=OP hmq 3 rfl;generalize(Z6 L q).XM=PQ at *;clear HX HXR HEM hmq iI;have hqI:(q:Int)<(L.length:Int):=PM.2 hqL
   have FACTS:Hid (∀w',SO w w' K ⟨out,q,bg,nH⟩ (.slice ua out.length uc) (.slice ua out.length uc)→w'.heap[T]?=some (.cells (Jw P.Xq P.type P.seq P.time P.Yi a1 n1 c1 P.Xo P.XZ a2 n2 c2 a3 n3 c3 P.pad D) 97 (0,0))→w'.cell? ⟨K,0,none⟩=some (.slice ua out.length uc)∧w'.cell? ⟨K,1,none⟩=some (.int .i64 (q:Int))∧w'.cell? ⟨K,2,none⟩=some (.int .u32 bg)∧w'.cell? ⟨K,3,none⟩=some (.int .u16 nH)∧w'.cell? ⟨T,3,none⟩=some (.int .u32 P.time)∧w'.cell? ⟨V,0,none⟩=some (.pointer (some ⟨k,0,none⟩))∧w'.cell? ⟨V,1,none⟩=some (.int .i64 xp)∧w'.cell? ⟨V,2,none⟩=some (.int .i64 xs)∧w'.cell? ⟨k,2,none⟩=some (.slice (some ⟨g,o,none⟩) L.length c)∧w'.cell? ⟨g,o+q*15+3,none⟩=some (.int .u32 PQ.time)):=fun w' h1 h2=>
    ⟨h1.facts.1,h1.facts.2.1,h1.facts.2.2.1,h1.facts.2.2.2,Zc h2 3 rfl,by rw[cell_of ((h1.Za.block _ (ZY HV.o)).trans HV.o) 0];rfl,by rw[cell_of ((h1.Za.block _ (ZY HV.o)).trans HV.o) 1];rfl,by rw[cell_of ((h1.Za.block _ (ZY HV.o)).trans HV.o) 2];rfl,by rw[cell_of ((h1.Za.block _ (ZY wm.o)).trans wm.o) 2];rfl,ZM HTQ.o h1.Za⟩
   have CO:=Zh (F9 xp xs w5.drew);go_upto_region 9 with fail
   refine RX ?_;refine Zj (d:=56) (S:=(fun w'=>w'.cell? ⟨K,0,none⟩=some (.slice ua out.length uc)∧w'.cell? ⟨K,1,none⟩=some (.int .i64 (q:Int))∧w'.cell? ⟨K,2,none⟩=some (.int .u32 bg)∧w'.cell? ⟨K,3,none⟩=some (.int .u16 nH)∧w'.cell? ⟨T,3,none⟩=some (.int .u32 P.time)∧w'.cell? ⟨V,0,none⟩=some (.pointer (some ⟨k,0,none⟩))∧w'.cell? ⟨V,1,none⟩=some (.int .i64 xp)∧w'.cell? ⟨V,2,none⟩=some (.int .i64 xs)∧w'.cell? ⟨k,2,none⟩=some (.slice (some ⟨g,o,none⟩) L.length c)∧w'.cell? ⟨g,o+q*15+3,none⟩=some (.int .u32 PQ.time))) X6 ?_ (fun _=>?_)
   ·exact FACTS.o _ wR.o HT5.o
   refine YP 0 (h:=YP 1 (h:=YP 2 (h:=YP 3 (h:=YP 5 (h:=YP 6 (h:=YP 7 (h:=YP 8 (h:=YP 9 (h:=YP 13 (h:=YP 14 (h:=YP 16 (h:=YP 17 (h:=YP 18 (h:=YP 23 (h:=YP 24 (h:=YP 25 (h:=YP 32 (h:=YP 33 (h:=YP 34 (h:=YP 37 (h:=YP 38 (h:=YP 39 (h:=YP 40 (h:=YP 42 (h:=YP 43 (h:=YP 44 (h:=YP 45 (h:=YP 48 (h:=YP 49 (h:=YP 50 (h:=YK 4 (h:=YK 10 (h:=YP 11 (h:=YP 12 (h:=YK 15 (h:=YK 19 (h:=YP 20 (h:=YP 21 (h:=YK 22 (h:=YK 26 (h:=YP 27 (h:=YP 28 (h:=YP 29 (h:=YK 30 (h:=YP 31 (h:=YK 35 (h:=YP 36 (h:=YK 41 (h:=YK 46 (h:=YK 51 (h:=YP 52 (h:=?_))))))))))))))))))))))))))))))))))))))))))))))))))));refine YR 47 (h:=fun K hK=>?_);go_simp;refine CO.o.mono ?_;rintro e w' ⟨rfl,rfl⟩;go_wp2_with fail
   refine YY hK _ _ ?_ (fun _=>?_)
   ·exact FACTS.o _ wR.o HT5.o
   clear hK K;try simp only[pt]
   refine YP 53 (h:=YP 54 (h:=?_));refine YR 55 (h:=fun K hK=>?_);refine W9 Zr Ax (.tmp 112) Zr (Qp (j:Int) (IntKind.u16.wrap (out.length:Int)) (IntKind.u32.wrap (IntKind.u32.wrap (P.time-PQ.time)+bg)) (Xl xp xs) (IntKind.u16.wrap (nH-1)) op) Zr Zr Zd ?_;have HR:Hid (Row (w5.drew.alloc (.cells (Qp (j:Int) (IntKind.u16.wrap (out.length:Int)) (IntKind.u32.wrap (IntKind.u32.wrap (P.time-PQ.time)+bg)) (Xl xp xs) (IntKind.u16.wrap (nH-1)) op) 70)) 70 (.slice (some ⟨w5.drew.heap.size,0,none⟩) 1 1) 1 (Qp (j:Int) (IntKind.u16.wrap (out.length:Int)) (IntKind.u32.wrap (IntKind.u32.wrap (P.time-PQ.time)+bg)) (Xl xp xs) (IntKind.u16.wrap (nH-1)) op)):=Vw w5.drew 70 1 (Qp (j:Int) (IntKind.u16.wrap (out.length:Int)) (IntKind.u32.wrap (IntKind.u32.wrap (P.time-PQ.time)+bg)) (Xl xp xs) (IntKind.u16.wrap (nH-1)) op) Zd;have UU:=Z' w5.drew (.cells (Qp (j:Int) (IntKind.u16.wrap (out.length:Int)) (IntKind.u32.wrap (IntKind.u32.wrap (P.time-PQ.time)+bg)) (Xl xp xs) (IntKind.u16.wrap (nH-1)) op) 70);have wR:=Zh (wR.o.below UU);have HT5:=Zh ((UU.block _ (ZY HT5.o)).trans HT5.o);clear UU;refine YY hK _ _ ?_ (fun _=>?_)
   ·exact FACTS.o _ wR.o HT5.o
   clear hK K;try simp only[pt]
   refine YR 56 (h:=fun K hK=>?_);refine Y9 Zr (.tmp 62) (.tmp 113) 61 Zr w Ax (.slice ua out.length uc) out.length (out.flatMap Xu) Zr wR.o.own _ 1 (Qp (j:Int) (IntKind.u16.wrap (out.length:Int)) (IntKind.u32.wrap (IntKind.u32.wrap (P.time-PQ.time)+bg)) (Xl xp xs) (IntKind.u16.wrap (nH-1)) op) Zr HR.o rfl (eJ ⟨(j:Int),IntKind.u16.wrap (out.length:Int),IntKind.u32.wrap (IntKind.u32.wrap (P.time-PQ.time)+bg),Xl xp xs,IntKind.u16.wrap (nH-1),op⟩) Zo Zo wR.o.Za.size ?_;intro v6 w6 Hf wG;have gB:Hid (w6.ownsRow w 70 6 v6 (out++[(⟨j,IntKind.u16.wrap out.length,IntKind.u32.wrap (IntKind.u32.wrap (P.time-PQ.time)+bg),Xl xp xs,IntKind.u16.wrap (nH-1),op⟩:ED)]).length ((out++[(⟨j,IntKind.u16.wrap out.length,IntKind.u32.wrap (IntKind.u32.wrap (P.time-PQ.time)+bg),Xl xp xs,IntKind.u16.wrap (nH-1),op⟩:ED)]).flatMap Xu)):=(by rw[UC,O7];exact Hf.o);have HSO6:=Zh (wR.o.grow wG.o gB.o);obtain⟨na,nc,Na⟩:∃a c,v6 = .slice a (out.length+1) c:=by obtain⟨a,c,h⟩:=Row.form (Row.Z4 gB.o);exact⟨a,c,by rw[h,UC];rfl⟩
   subst Na;obtain⟨u0,u1,u2,u3⟩:=HSO6.o.facts;have f0:=ZP HSO6.o.Y8 0;refine Ye hK _ _ X6 ?_;clear hK K;try simp only[pt]
   refine YP 57 (h:=YP 58 (h:=?_));refine YR 59 (h:=fun K hK=>?_);go_simp;have HSO7:=Zh (HSO6.o.set 0 (.slice na (out.length+1) nc) _ (.slice na (out.length+1) nc) rfl rfl);refine Ye hK _ _ X6 ?_;clear hK K;try simp only[pt]
   refine Yt X6 ?_ _;refine QP ?_;go_wp2_with fail
   first|refine bodyPost_end (results_none Zr _ _ _) rfl ?_|refine Vr (v:= .tuple #[]) (results_none Zr _ _ _) rfl ?_
   exact⟨rfl,_,by rw[HXF.o];exact HSO7.o⟩
end
def ot(w:World):Calls prog 56 #[.pointer none] w fun e w'=>e = .returned (.slice none 0 0)∧w=w':=by
 go_enter func56,ntmps56;go_wp2_with fail
 go_ret;exact⟨rfl,rfl⟩
section
variable {w:World} {V k:Nat} {ov av mv lv:Value} {L:List WR} {x:Zt} {wv cv qv:Value}
def om(h:VB w V k ov av mv lv L x wv cv qv)(hr:Nq w wv cv qv (Wn L x (L.length+1)))(hL:L.length≤256) :
  Calls prog 56 #[.pointer (some ⟨V,0,none⟩)] w fun e w'=>(∃ev,e = .returned ev∧w'.ownsRow w 70 6 ev (Zx L x L.length).o.length ((Zx L x L.length).o.flatMap Xu))∧Below w w w':=by
 have G6:=Zh h;have HVR:=Zh hr;obtain⟨oa,oc,hov,-,-⟩:=h.ops.form;subst hov;have EN:Hid (SO w (w.alloc (.cells (Qy none 0 0 0 0 0) 162)) w (Zx L x 0) (.slice none 0 0) (.slice none 0 0)):=⟨Z' w _,Z9 w _,TH _ _ _ _,Zq _⟩;have hVl:=ZY h.view;have Vz:=ZY h.book;have v0:w.cell? ⟨V,0,none⟩=some (.pointer (some ⟨k,0,none⟩)):=Zc h.view 0 rfl;have b0:w.cell? ⟨k,0,none⟩=some (.slice oa L.length oc):=Zc h.book 0 rfl;clear h hr;go_enter func56,ntmps56;go_wp2_with fail
 clear v0 b0 hVl Vz;generalize w.alloc (.cells (Qy none 0 0 0 0 0) 162)=w0 at *;go_loopw [15] (fun s15 w'=>∃(j:Nat) (uv:Value),j≤L.length∧s15 = .int .i64 (j:Int)∧SO w w' w (Zx L x j) uv uv) (fun s15 _=>L.length-(intOf s15).toNat)
 case atStart=>exact⟨0,_,Zo,rfl,EN.o⟩
 case round=>
  obtain⟨j,uv,hj,rfl,nE⟩:=hrel;clear EN;have iR:=Zh nE;clear nE;by_cases RZ:j<L.length
  ·have Cj:(j:Int)<(L.length:Int):=PM.2 RZ;have Pg:=Zh (Si L x j);have Ad:Hid (Zx L x (j+1)=Vx L x (ZL L x j) (Zx L x j) j):=rfl;have G5:=Zh (HVR.o.at (NZ L x (Nat.lt_succ_of_lt RZ)));generalize Zx L x j=z at *;generalize ZL L x j=s at *;have hzl:z.o.length≤1000:=by have:=Pg.o.len;omega
   have BC:Hid (∀e∈z.o,0≤e.event∧e.event<L.length):=fun e he=>by have:=Pg.o.ev e he;omega
   obtain⟨ua,uc,rfl⟩:=Row.form (Row.Z4 iR.o.own);obtain⟨gq,oq,mq,cq,hqv,hjq,hqc⟩:=G5.o.quiet;have HQC:=Zh hqc;have hjqI:(j:Int)<(mq:Int):=PM.2 hjq;subst hqv;have CP:=Zh (Hm (G6.o.below iR.o.Za) RZ);have wU:Hid (Vx L x s z j=if YU L x j && !s.quiet&&(Wx s (Z6 L j).WI||Oo L s z.o j)then QC L x s z j else z):=rfl;generalize hS:Vx L x s z j=ZZ at *;have rq:=Zh hS;clear hS hqc;generalize Cm:Wx s (Z6 L j).WI=op at *;have HOP:=Zh Cm;generalize Ey:Oo L s z.o j=go at *;have vK:=Zh Ey;generalize YU L x j=pk at *;generalize s.quiet=qt at *;clear Cm Ey;cases pk with
   | false=>
    have HX:Hid (ZZ=z):=by show _=_;rw[wU.o];rfl
    go_wp2_with (go_at_call 88;refine CP.o.mono ?_;rintro e w2 ⟨rfl,Y7⟩;have Pz:=Zh (iR.o.below Y7);have q7:w2.cell? ⟨V,7,none⟩=some (.slice (some ⟨gq,oq,none⟩) mq cq):=(by rw[cell_of (G6.o.below Pz.o.Za).view 7];rfl);have qc:w2.cell? ⟨gq,oq+j,none⟩=some (.bool qt):=ZM HQC.o Pz.o.Za;have CN:=Zh (Td (G6.o.below Pz.o.Za) RZ (G5.o.below Pz.o.Za));rw[HOP.o]at CN;clear Y7)
    go_roundw
    case rel=>exact⟨j+1,_,Zo,Zn,by rw[Ad.o,HX.o];exact Pz.o⟩
    case measure=>simp[intOf];omega
   | true=>
   cases qt with
   | true=>
    have HX:Hid (ZZ=z):=by show _=_;rw[wU.o];rfl
    go_wp2_with (go_at_call 88;refine CP.o.mono ?_;rintro e w2 ⟨rfl,Y7⟩;have Pz:=Zh (iR.o.below Y7);have q7:w2.cell? ⟨V,7,none⟩=some (.slice (some ⟨gq,oq,none⟩) mq cq):=(by rw[cell_of (G6.o.below Pz.o.Za).view 7];rfl);have qc:w2.cell? ⟨gq,oq+j,none⟩=some (.bool true):=ZM HQC.o Pz.o.Za;have CN:=Zh (Td (G6.o.below Pz.o.Za) RZ (G5.o.below Pz.o.Za));rw[HOP.o]at CN;clear Y7)
    go_roundw
    case rel=>exact⟨j+1,_,Zo,Zn,by rw[Ad.o,HX.o];exact Pz.o⟩
    case measure=>simp[intOf];omega
   | false=>
   cases op with
   | true=>
    have HX:Hid (ZZ=QC L x s z j):=by show _=_;rw[wU.o];rfl
    go_wp2_with (first|(go_at_call 88;refine CP.o.mono ?_;rintro e w2 ⟨rfl,Y7⟩;have Pz:=Zh (iR.o.below Y7);have q7:w2.cell? ⟨V,7,none⟩=some (.slice (some ⟨gq,oq,none⟩) mq cq):=(by rw[cell_of (G6.o.below Pz.o.Za).view 7];rfl);have qc:w2.cell? ⟨gq,oq+j,none⟩=some (.bool false):=ZM HQC.o Pz.o.Za;have CN:=Zh (Td (G6.o.below Pz.o.Za) RZ (G5.o.below Pz.o.Za));rw[HOP.o]at CN;clear Y7)|(go_at_call 89;refine CN.o.mono ?_;rintro e w3 ⟨rfl,WM⟩;have JN:=Zh (Pz.o.below WM);obtain⟨e0,e1,e2,e3⟩:=JN.o.facts;have CG:=Zh (IA (G6.o.below JN.o.Za) RZ (G5.o.below JN.o.Za) ua uc z.o z.opn z.begin z.WK (Row.Z4 JN.o.own) BC.o hzl);rw[vK.o]at CG;have CSE:=Zh (Oc G6.o RZ hL G5.o w z _ w3 JN.o Pg.o);clear WM)|(go_at_call 91;refine CSE.o.mono ?_;rintro e w5 ⟨rfl,hH,kX⟩;have ni:=Zh kX;clear kX))
    go_roundw
    case rel=>exact⟨j+1,_,Zo,Zn,by rw[Ad.o,HX.o];exact ni.o⟩
    case measure=>simp[intOf];omega
   | false=>
   cases go with
   | true=>
    have HX:Hid (ZZ=QC L x s z j):=by show _=_;rw[wU.o];rfl
    go_wp2_with (first|(go_at_call 88;refine CP.o.mono ?_;rintro e w2 ⟨rfl,Y7⟩;have Pz:=Zh (iR.o.below Y7);have q7:w2.cell? ⟨V,7,none⟩=some (.slice (some ⟨gq,oq,none⟩) mq cq):=(by rw[cell_of (G6.o.below Pz.o.Za).view 7];rfl);have qc:w2.cell? ⟨gq,oq+j,none⟩=some (.bool false):=ZM HQC.o Pz.o.Za;have CN:=Zh (Td (G6.o.below Pz.o.Za) RZ (G5.o.below Pz.o.Za));rw[HOP.o]at CN;clear Y7)|(go_at_call 89;refine CN.o.mono ?_;rintro e w3 ⟨rfl,WM⟩;have JN:=Zh (Pz.o.below WM);obtain⟨e0,e1,e2,e3⟩:=JN.o.facts;have CG:=Zh (IA (G6.o.below JN.o.Za) RZ (G5.o.below JN.o.Za) ua uc z.o z.opn z.begin z.WK (Row.Z4 JN.o.own) BC.o hzl);rw[vK.o]at CG;have CSE:=Zh (Oc G6.o RZ hL G5.o w z _ w3 JN.o Pg.o);clear WM)|(go_at_call 90;refine CG.o.mono ?_;rintro e w4 ⟨rfl,S0⟩;have HS4:=Zh (JN.o.below S0);clear CSE;have CSE:=Zh (Oc G6.o RZ hL G5.o w z _ w4 HS4.o Pg.o);clear S0)|(go_at_call 91;refine CSE.o.mono ?_;rintro e w5 ⟨rfl,hH,kX⟩;have ni:=Zh kX;clear kX))
    go_roundw
    case rel=>exact⟨j+1,_,Zo,Zn,by rw[Ad.o,HX.o];exact ni.o⟩
    case measure=>simp[intOf];omega
   | false=>
    have HX:Hid (ZZ=z):=by show _=_;rw[wU.o];rfl
    go_wp2_with (first|(go_at_call 88;refine CP.o.mono ?_;rintro e w2 ⟨rfl,Y7⟩;have Pz:=Zh (iR.o.below Y7);have q7:w2.cell? ⟨V,7,none⟩=some (.slice (some ⟨gq,oq,none⟩) mq cq):=(by rw[cell_of (G6.o.below Pz.o.Za).view 7];rfl);have qc:w2.cell? ⟨gq,oq+j,none⟩=some (.bool false):=ZM HQC.o Pz.o.Za;have CN:=Zh (Td (G6.o.below Pz.o.Za) RZ (G5.o.below Pz.o.Za));rw[HOP.o]at CN;clear Y7)|(go_at_call 89;refine CN.o.mono ?_;rintro e w3 ⟨rfl,WM⟩;have JN:=Zh (Pz.o.below WM);obtain⟨e0,e1,e2,e3⟩:=JN.o.facts;have CG:=Zh (IA (G6.o.below JN.o.Za) RZ (G5.o.below JN.o.Za) ua uc z.o z.opn z.begin z.WK (Row.Z4 JN.o.own) BC.o hzl);rw[vK.o]at CG;have CSE:=Zh (Oc G6.o RZ hL G5.o w z _ w3 JN.o Pg.o);clear WM)|(go_at_call 90;refine CG.o.mono ?_;rintro e w4 ⟨rfl,S0⟩;have HS4:=Zh (JN.o.below S0);clear CSE;have CSE:=Zh (Oc G6.o RZ hL G5.o w z _ w4 HS4.o Pg.o);clear S0))
    go_roundw
    case rel=>exact⟨j+1,_,Zo,Zn,by rw[Ad.o,HX.o];exact HS4.o⟩
    case measure=>simp[intOf];omega
  ·have K6:j=L.length:=by omega
   subst K6;obtain⟨ua,uc,rfl⟩:=Row.form (Row.Z4 iR.o.own);obtain⟨u0,u1,u2,u3⟩:=iR.o.facts;clear RZ;go_wp2_with fail
   go_ret;exact⟨⟨_,rfl,iR.o.own⟩,iR.o.Za⟩
end
def wW(v:Value)(L:List WR)(w:World)(hT:Xn w)(h:Wu w v L)(hL:L.length≤256) :
  Calls prog 24 #[v] w fun e w'=>(∃av,e = .returned av∧Row w' 35 av L.length ((XV L L.length).flatMap VF))∧Below w w w':=by
 exact Yx71
def qg{w:World}{b b':Nat}{e:TypeId}{size:Nat}{v:Value}{n:Nat}{xs:List Value}(h:w.ownsRow b e size v n xs)(hb:b'≤b):w.ownsRow b' e size v n xs:=by
 obtain⟨h1,h2⟩:=h;refine⟨h1,?_⟩;rcases h2 with h2|⟨g,cap,cur,hv,hg,r⟩
 ·exact WQ h2
 ·exact WG ⟨g,cap,cur,hv,PJ hb hg,r⟩
def UJ(L:List WR)(x:Zt):List ED:=if x∈Zg L L.length L.length then(Zx L x L.length).o else[]
def td(v:Value)(L:List WR)(x:Zt)(w:World)(hT:Xn w)(h:Wu w v L)(hL:L.length≤256) :
  Calls prog 29 #[v,.agg (Z5 x).toArray] w fun e w'=>(∃ev,e = .returned ev∧w'.ownsRow w 70 6 ev (UJ L x).length ((UJ L x).flatMap Xu))∧Below w w w':=by
 have Rq:Hid (Below w w (w.alloc (.cells (Z5 x).toArray 59))):=Z' w _;have hz:(w.alloc (.cells (Z5 x).toArray 59)).heap[w.heap.size]?=some (.cells (Z5 x).toArray 59 (0,0)):=Z9 w _;by_cases hx:x∈Zg L L.length L.length
 ·have CV:=Zh (Le v L x (w.alloc (.cells (Z5 x).toArray 59)) (Utf8Tabs_below hT Rq.o) (h.below Rq.o) hL hx);have HX:Hid (UJ L x=(Zx L x L.length).o):=by show _=_;unfold UJ;rw[ZU hx]
  have HL:=Zh hL;generalize UJ L x=X at *;clear hx hT h hL;obtain⟨p,sr,b,f⟩:=x;dsimp only[Z5]at CV Rq hz ⊢;go_enter func29,ntmps29;go_wp2_with (first|with_reducible refine Zl hz underlying59 ?_|(go_at_call 55;refine CV.o.mono ?_;rintro e w2 ⟨⟨V,k,ov,av,mv,lv,wv,cv,qv,rfl,lu,lA⟩,Y7⟩;have Yc:=Zh (Tr Rq Y7);have CW:=Zh (om lu lA HL.o);clear lu lA Y7)|(go_at_call 56;refine CW.o.mono ?_;rintro e w3 ⟨⟨ev,rfl,LQ⟩,WM⟩;have BC:=Zh LQ;have WB:=Zh (Tr Yc WM);clear LQ WM))
  go_ret;exact⟨⟨ev,rfl,by rw[HX.o];exact qg BC.o Yc.o.size⟩,WB.o⟩
 ·have CV:=Zh (Ld v L x (w.alloc (.cells (Z5 x).toArray 59)) (Utf8Tabs_below hT Rq.o) (h.below Rq.o) hL hx);have HX:Hid (UJ L x=[]):=by show _=_;unfold UJ;rw[Z3 hx]
  generalize UJ L x=X at *;clear hx hT h hL;obtain⟨p,sr,b,f⟩:=x;dsimp only[Z5]at CV Rq hz ⊢;go_enter func29,ntmps29;go_wp2_with (first|with_reducible refine Zl hz underlying59 ?_|(go_at_call 55;refine CV.o.mono ?_;rintro e w2 ⟨rfl,Y7⟩;have Yc:=Zh (Tr Rq Y7);have CW:=Zh (ot w2);clear Y7)|(go_at_call 56;refine CW.o.mono ?_;rintro e w' ⟨rfl,rfl⟩))
  go_ret;exact⟨⟨_,rfl,by rw[HX.o];exact TH _ _ _ _⟩,Yc.o⟩
def BI(v:Value)(L:List WR)(x:Zt)(w:World)(hT:Xn w)(h:Wu w v L)(hL:L.length≤256) :
  Calls prog 29 #[v,.agg (Z5 x).toArray] w fun e w'=>(∃ev,e = .returned ev∧Row w' 70 ev (UJ L x).length ((UJ L x).flatMap Xu))∧Below w w w':=
 (td v L x w hT h hL).mono fun e w' ⟨⟨ev,h1,h2⟩,h3⟩=>⟨⟨ev,h1,Row.Z4 h2⟩,h3⟩
def Fb{L:List WR}{k:Nat}(h:(Z6 L k).XR.kind=1):(VQ L k).ds=(Z6 L k).WI∧(VQ L k).pk=(Z6 L k).XM:=by
 unfold Z6 at h ⊢;unfold VQ;cases hy:L[k]? with
 | none=>rw[hy]at h;exact absurd h (by show¬(0:Int)=1;decide)
 | some y=>
  rw[hy]at h;dsimp only at h ⊢;unfold take at h ⊢;by_cases k1:y.x.o.kind=1
  ·rw[ZU k1]at h ⊢;unfold DY;rw[ZU k1];unfold YD at h ⊢;by_cases h1:(XX y.b).2≠0
   ·rw[ZU h1]at h;exact absurd h (by show¬(3:Int)=1;decide)
   rw[Z3 h1]at h ⊢;split at h
   ·exact absurd h (by show¬(4:Int)=1;decide)
   rename_i h2
   rw[Z3 h2];cases hv:(XX y.b).1 with
   | none=>rw[hv]at h;exact absurd h (by show¬(2:Int)=1;decide)
   | X4 l=>rw[hv]at h;exact absurd h (by show¬(2:Int)=1;decide)
   | XS p d=>
    rw[hv]at h;dsimp only at h ⊢;unfold VK at h ⊢;split at h
    ·rename_i h3;rw[ZU h3];exact⟨rfl,rfl⟩
    ·exact absurd h (by show¬(5:Int)=1;decide)
  ·rw[Z3 k1]at h;split at h
   ·exact absurd h (by show¬(6:Int)=1;decide)
   ·exact absurd h (by show¬(2:Int)=1;decide)
