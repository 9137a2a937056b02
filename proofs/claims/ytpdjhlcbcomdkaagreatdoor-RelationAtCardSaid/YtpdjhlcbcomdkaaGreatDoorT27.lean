/- Part of a proof. -/
import Derived.Test.YtpdjhlcbcomdkaaGreatDoorT26
set_option linter.unusedVariables false
set_option linter.unusedSimpArgs false
set_option maxRecDepth 100000
set_option maxHeartbeats 16000000
open Go Go.Q Go.Qr Go.Proofs.Tryz
namespace Go.Proofs.By
open Go.RowKit Go.Proofs.Heap Go.Proofs
open Go.Proofs.Rm (below_drewN W9 YL)
theorem UN:Elem prog 122 4 1 1:=⟨underlying122,⟨.bool false,by kernel_rfl,rfl⟩,by decide⟩
structure BkF(w:World)(k:Nat)(ov av mv lv:Value)(L:List WE)(LS:List Zx):Prop where
 book:w.heap[k]?=some (.cells #[ov,av,mv,lv] 116 (0,0))
 ops:WY w ov L
 XX:Row w 35 av L.length ((XZ L L.length).flatMap VE)
 KG:∃M:List TK,Row w 97 mv M.length (M.flatMap Xm)∧(∀y∈M,Vy w y.p y.cv y.ev y.pv)∧M.map (fun y=>(y.p,y.d))=Od L L.length
 QM:Row w 59 lv LS.length (LS.flatMap Z8)
theorem BkF.below{w w':World}{k:Nat}{ov av mv lv:Value}{L:List WE}{LS:List Zx}(h:BkF w k ov av mv lv L LS)(hb:Below w w w'):BkF w' k ov av mv lv L LS:=by
 obtain⟨M,m1,m0,m2⟩:=h.KG;exact⟨(hb.block _ (ZX h.book)).trans h.book,h.ops.below hb,Row.below h.XX hb,⟨M,Row.below m1 hb,fun y hy=>(m0 y hy).below hb,m2⟩,Row.below h.QM hb⟩
theorem VB.of{w w':World}{V k:Nat}{ov av mv lv:Value}{L:List WE}{LS:List Zx}{x:Zx}{wv cv qv:Value}(h:BkF w k ov av mv lv L LS)(hb:Below w w w')(hv:w'.heap[V]?=some (.cells (Q7 (some ⟨k,0,none⟩) x.peer x.source x.Mr x.fin wv cv qv) 164 (0,0))):VB w' V k ov av mv lv L x wv cv qv:=
 ⟨(h.below hb).book,(h.below hb).ops,(h.below hb).XX,(h.below hb).KG,hv⟩
structure VO(w w':World)(V T k:Nat)(x:Zx)(s:VS)(w0 c0 q0 wv:Value)(ws:List Int)(cv:Value)(cs:List Int)(qv:Value)(qs:List Bool):Prop where
 Zf:Below w w w'
 view:w'.heap[V]?=some (.cells (Q7 (some ⟨k,0,none⟩) x.peer x.source x.Mr x.fin w0 c0 q0) 164 (0,0))
 st:w'.heap[T]?=some (.cells (XH s).toArray 202 (0,0))
 want:w'.ownsRow w 3 1 wv ws.length (Ws ws)
 cur:w'.ownsRow w 3 1 cv cs.length (Ws cs)
 quiet:w'.ownsRow w 4 1 qv qs.length (U5 qs)
 ne:∀i,wv.ownBlock=some i→cv.ownBlock≠some i
 ge:w.heap.size≤V∧w.heap.size≤T
theorem AP(w:World):Below w w w.drew:=(YI _ _).drew
theorem row_one{w:World}{B:Nat}{e:TypeId}{v:Value}(h:w.heap[B]?=some (.cells #[v] e (0,0))):Row w e (.slice (some ⟨B,0,none⟩) 1 1) 1 [v]:=
 ⟨_,_,rfl,Zw _,by unfold maxLen;omega,(fun h=>by cases h),WB ⟨B,0,_,_,rfl,h,fun j hj=>by
  have hj:j<1:=hj;have:j=0:=by omega
  subst this
  rfl⟩⟩
section
variable {w w1 w2:World} {V T k:Nat} {x:Zx} {s:VS} {w0 c0 q0 wv:Value} {ws:List Int} {cv:Value} {cs:List Int} {qv:Value} {qs:List Bool}
theorem VO.below(h:VO w w1 V T k x s w0 c0 q0 wv ws cv cs qv qs)(hb:Below w1 w1 w2):VO w w2 V T k x s w0 c0 q0 wv ws cv cs qv qs:=
 ⟨h.Zf.trans (hb.mono h.Zf.size),(hb.block _ (ZX h.view)).trans h.view,(hb.block _ (ZX h.st)).trans h.st,Yv h.want hb,Yv h.cur hb,Yv h.quiet hb,h.ne,h.ge⟩
theorem VO.facts(h:VO w w1 V T k x s w0 c0 q0 wv ws cv cs qv qs):w1.cell? ⟨V,5,none⟩=some w0∧w1.cell? ⟨V,6,none⟩=some c0∧w1.cell? ⟨V,7,none⟩=some q0∧w1.cell? ⟨T,0,none⟩=some (.int .i64 s.want)∧w1.cell? ⟨T,1,none⟩=some (.int .i64 s.cur)∧w1.cell? ⟨T,2,none⟩=some (.bool s.ZV)∧w1.cell? ⟨T,3,none⟩=some (.bool s.ZN):=
 ⟨Zc h.view 5 rfl,Zc h.view 6 rfl,Zc h.view 7 rfl,Zc h.st 0 rfl,Zc h.st 1 rfl,Zc h.st 2 rfl,Zc h.st 3 rfl⟩
theorem Si{w:World}{base:Nat}{e:TypeId}{size:Nat}{v:Value}{n:Nat}{xs:List Value}(h:w.ownsRow base e size v n xs){i:Nat}(hi:v.ownBlock=some i):i<w.heap.size:=by
 obtain⟨cu,hc⟩:=Wi h i hi;exact ZX hc
theorem VO.Cr(h:VO w w1 V T k x s w0 c0 q0 wv ws cv cs qv qs)(hg:w1.grownBy w2 wv.ownBlock){wv':Value}{ws':List Int}(ho:w2.ownsRow w 3 1 wv' ws'.length (Ws ws'))(hw:∀i,wv'.ownBlock=some i→wv.ownBlock=some i∨i=w1.heap.size):VO w w2 V T k x s w0 c0 q0 wv' ws' cv cs qv qs:=
 ⟨((Fr.Z6 Pz h.Zf).grown hg h.Zf.size (YL h.want)).below,(hg.block _ (ZX h.view) (fun e=>Y7 h.want Zd _ _ _ e.symm h.view)).trans h.view,(hg.block _ (ZX h.st) (fun e=>Y7 h.want Zd _ _ _ e.symm h.st)).trans h.st,ho,
  XL h.cur (fun i hi=>hg.block i (Si h.cur hi) (fun e=>h.ne i e.symm hi)),Vi h.quiet h.want Zd hg,
  fun i hi hc=>by rcases hw i hi with h1|h1;exact h.ne i h1 hc;have:=Si h.cur hc;omega,h.ge⟩
theorem VO.Cq(h:VO w w1 V T k x s w0 c0 q0 wv ws cv cs qv qs)(hg:w1.grownBy w2 cv.ownBlock){cv':Value}{cs':List Int}(ho:w2.ownsRow w 3 1 cv' cs'.length (Ws cs'))(hw:∀i,cv'.ownBlock=some i→cv.ownBlock=some i∨i=w1.heap.size):VO w w2 V T k x s w0 c0 q0 wv ws cv' cs' qv qs:=
 ⟨((Fr.Z6 Pz h.Zf).grown hg h.Zf.size (YL h.cur)).below,(hg.block _ (ZX h.view) (fun e=>Y7 h.cur Zd _ _ _ e.symm h.view)).trans h.view,(hg.block _ (ZX h.st) (fun e=>Y7 h.cur Zd _ _ _ e.symm h.st)).trans h.st,
  XL h.want (fun i hi=>hg.block i (Si h.want hi) (fun e=>h.ne i hi e.symm)),ho,Vi h.quiet h.cur Zd hg,
  fun i hi hc=>by rcases hw i hc with h1|h1;exact h.ne i hi h1;have:=Si h.want hi;omega,h.ge⟩
theorem VO.kX(h:VO w w1 V T k x s w0 c0 q0 wv ws cv cs qv qs)(hg:w1.grownBy w2 qv.ownBlock){qv':Value}{qs':List Bool}(ho:w2.ownsRow w 4 1 qv' qs'.length (U5 qs')):VO w w2 V T k x s w0 c0 q0 wv ws cv cs qv' qs':=
 ⟨((Fr.Z6 Pz h.Zf).grown hg h.Zf.size (YL h.quiet)).below,(hg.block _ (ZX h.view) (fun e=>Y7 h.quiet Zd _ _ _ e.symm h.view)).trans h.view,(hg.block _ (ZX h.st) (fun e=>Y7 h.quiet Zd _ _ _ e.symm h.st)).trans h.st,
  Vi h.want h.quiet Zd hg,Vi h.cur h.quiet Zd hg,ho,h.ne,h.ge⟩
theorem VO.vt(h:VO w w1 V T k x s w0 c0 q0 wv ws cv cs qv qs):V≠T:=fun e=>by
 have h1:=h.view;rw[e,h.st]at h1;injection h1 with h1
 injection h1 with _ h1
 exact absurd h1 Zd
theorem VO.rest(h:VO w w1 V T k x s w0 c0 q0 wv ws cv cs qv qs){b:Nat}(hb:b=V∨b=T)(he:∀j,j≠b→w2.heap[j]?=w1.heap[j]?):w2.ownsRow w 3 1 wv ws.length (Ws ws)∧w2.ownsRow w 3 1 cv cs.length (Ws cs)∧w2.ownsRow w 4 1 qv qs.length (U5 qs):=by
 have hn:∀ {v:Value} {e:TypeId} {n:Nat} {xs:List Value},w1.ownsRow w e 1 v n xs→e=3∨e=4→∀i,v.ownBlock=some i→i≠b:=fun ho ht i hi hib=>by
  subst hib;rcases hb with rfl|rfl
  ·exact Y7 ho (by rcases ht with rfl|rfl <;> decide) _ _ _ hi h.view
  ·exact Y7 ho (by rcases ht with rfl|rfl <;> decide) _ _ _ hi h.st
 exact⟨XL h.want (fun i hi=>he i (hn h.want (WO rfl) i hi)),XL h.cur (fun i hi=>he i (hn h.cur (WO rfl) i hi)),XL h.quiet (fun i hi=>he i (hn h.quiet (WB rfl) i hi))⟩
theorem VO.bj(h:VO w w1 V T k x s w0 c0 q0 wv ws cv cs qv qs)(o:Nat)(u w0' c0' q0':Value)(hs:[.pointer (some ⟨k,0,none⟩),.int .i64 x.peer,.int .i64 x.source,.int .i64 x.Mr,.int .i64 x.fin,w0,c0,q0].set o u=(Q7 (some ⟨k,0,none⟩) x.peer x.source x.Mr x.fin w0' c0' q0')):VO w (w1.setCell ⟨V,o,none⟩ u) V T k x s w0' c0' q0' wv ws cv cs qv qs:=by
 have h2:=VH h.view o u;rw[List.setIfInBounds_toArray,hs]at h2;obtain⟨r1,r2,r3⟩:=h.rest (w2:=w1.setCell ⟨V,o,none⟩ u) (WO rfl) (fun j hj=>Mg w1 ⟨V,o,none⟩ u j hj);exact⟨((Fr.Z6 Pz h.Zf).setCell (p:=⟨V,o,none⟩) (WO h.ge.1) _).below,h2,(Mg w1 ⟨V,o,none⟩ u T (fun e=>h.vt e.symm)).trans h.st,r1,r2,r3,h.ne,h.ge⟩
theorem VO.setT(h:VO w w1 V T k x s w0 c0 q0 wv ws cv cs qv qs)(s':VS):VO w (w1.setRow T (XH s').toArray) V T k x s' w0 c0 q0 wv ws cv cs qv qs:=by
 obtain⟨r1,r2,r3⟩:=h.rest (w2:=w1.setRow T (XH s').toArray) (WB rfl) (fun j hj=>setRow_other w1 T j _ hj);exact⟨Z0 h.Zf h.ge.2 _,by rw[setRow_other w1 T V _ h.vt];exact h.view,setRow_heap _ _ _ _ _ _ h.st,r1,r2,r3,h.ne,h.ge⟩
theorem VO.rows(h:VO w w1 V T k x s w0 c0 q0 wv ws cv cs qv qs){SS:List VS}(h1:ws=SS.map VS.want)(h2:cs=SS.map VS.cur)(h3:qs=SS.map VS.quiet):Oy w1 wv cv qv SS:=by
 subst h1;subst h2;subst h3;have a:=Row.Z4 h.want;have b:=Row.Z4 h.cur;have c:=Row.Z4 h.quiet;rw[Tx]at a b c;exact⟨a,b,c⟩
theorem FJ(l:List Int)(z:Int):Ws (l++[z])=Ws l++[.int .i64 z]:=by simp[Ws]
theorem xR(l:List Bool)(z:Bool):U5 (l++[z])=U5 l++[.bool z]:=by simp[U5]
end
theorem pq{k:Nat}{ov av mv lv:Value}{L:List WE}{LS:List Zx}{w:World}(h:BkF w k ov av mv lv L LS)(x:Zx)(hx:x ∉ LS) :
  Calls prog 87 (Qi (some ⟨k,0,none⟩) (Z8 x).toArray) w fun e w'=>e = .returned (.pointer none)∧Below w w w':=by
 have hdx:decide (x∈LS)=false:=Wz hx;have wU:=Zh h;have uI:∃a n c,lv = .slice a n c:=by obtain⟨a,c,e⟩:=Row.form h.QM;exact⟨a,_,c,e⟩
 obtain⟨la,ln,lc,rfl⟩:=uI;have br:=Zh (fun(w':World) (hb:Below w w w')=>L3 _ LS x w' (Row.below h.QM hb));rw[hdx]at br;clear hdx hx h;obtain⟨p,sr,b,f⟩:=x;dsimp only[Z8]at br ⊢;have Tu:Hid ((w.alloc (.cells (Qb p sr b f) 59)).heap[w.heap.size]?=some (.cells (Qb p sr b f) 59 (0,0))):=Z9 w _;have Vk:Hid (Below w w (w.alloc (.cells (Qb p sr b f) 59))):=Z' w _;go_enter func87,ntmps87;go_upto_region 1 with fail
 generalize w.alloc (.cells (Qb p sr b f) 59)=w1 at *
 have ZB:Hid (∀w',Below w1 w1 w'→w'.cell? ⟨k,3,none⟩=some (.slice la ln lc)∧w'.rangeAt w 0 (Qb p sr b f)∧Below w1 w1 w'):=fun w' hb=>
  ⟨by rw[cell_of (wU.o.below (Tr Vk hb)).book 3];rfl,fun m v hm=>by rw[PW,cell_of ((hb.block _ (ZX Tu.o)).trans Tu.o) m];simpa using hm,hb⟩
 have CC:=Zh (br.o w1.drew (Vk.o.trans ((YI w1 w1).drew.mono Vk.o.size)));refine R5 ?_;refine Z_.Zj (d:=5) (S:=(fun w'=>w'.cell? ⟨k,3,none⟩=some (.slice la ln lc)∧w'.rangeAt w 0 (Qb p sr b f)∧Below w1 w1 w')) X_ ?_ (fun X7=>?_)
 ·exact ZB.o _ (YI _ _).drew
 refine YP 0 (h:=YP 1 (h:=YP 2 (h:=YK 3 (h:=?_))));refine Z_.tk 4 ?_ rfl ?_ <| ?_
 rotate_left
 ·intro wS Ub;(try dsimp only at Ub)
  refine(Xq 59 (.tmp 3) ?_ w 0 ?_ (Qb p sr b f) _ Ub.2.1 underlying59 rfl X_).trans ?_;all_goals rfl
 try simp only[Z_.pt]
 refine YR 5 (h:=fun K hK=>?_);go_simp;refine CC.o.mono ?_;rintro e w2 ⟨rfl,Zb⟩;have Yg:=Zh ((YI w1 w1).drew.trans Zb);clear Zb;go_wp2_with fail
 refine Z_.Yf hK _ _ X_ ?_;clear hK K;try simp only[Z_.pt]
 refine YP 6 (h:=?_);refine Z_.Yx X_ ?_ _;refine QZ ?_;go_wp2_with fail
 go_ret;exact⟨rfl,Tr Vk Yg.o⟩
theorem px{k:Nat}{ov av mv lv:Value}{L:List WE}{LS:List Zx}{w:World}(h:BkF w k ov av mv lv L LS)(hL:L.length≤256)(x:Zx)(hx:x∈LS)(h0:0≤x.Mr)(h1:x.Mr<L.length) :
  Calls prog 87 (Qi (some ⟨k,0,none⟩) (Z8 x).toArray) w fun e w'=>(∃V wv cv qv,e = .returned (.pointer (some ⟨V,0,none⟩))∧VB w' V k ov av mv lv L x wv cv qv∧Oy w' wv cv qv (WL L x (L.length+1)))∧Below w w w':=by
 have hdx:decide (x∈LS)=true:=Ww hx;have wU:=Zh h;have uI:∃a n c,lv = .slice a n c:=by obtain⟨a,c,e⟩:=Row.form h.QM;exact⟨a,_,c,e⟩
 obtain⟨la,ln,lc,rfl⟩:=uI;have br:=Zh (fun(w':World) (hb:Below w w w')=>L3 _ LS x w' (Row.below h.QM hb));rw[hdx]at br;clear hdx hx h;obtain⟨nb,hnb⟩:∃nb:Nat,x.Mr=(nb:Int):=⟨x.Mr.toNat,Zo⟩;obtain⟨p,sr,b,f⟩:=x;have hnb:b=(nb:Int):=hnb;have h1:b<L.length:=h1;subst hnb;clear h0;dsimp only[Z8]at br ⊢;have hnL:nb<L.length:=by omega
 clear h1;have Tu:Hid ((w.alloc (.cells (Qb p sr (nb:Int) f) 59)).heap[w.heap.size]?=some (.cells (Qb p sr (nb:Int) f) 59 (0,0))):=Z9 w _;have Vk:Hid (Below w w (w.alloc (.cells (Qb p sr (nb:Int) f) 59))):=Z' w _;go_enter func87,ntmps87;go_upto_region 1 with fail
 generalize w.alloc (.cells (Qb p sr (nb:Int) f) 59)=w1 at *
 have ZB:Hid (∀w',Below w1 w1 w'→w'.cell? ⟨k,3,none⟩=some (.slice la ln lc)∧w'.rangeAt w 0 (Qb p sr (nb:Int) f)∧Below w1 w1 w'):=fun w' hb=>
  ⟨by rw[cell_of (wU.o.below (Tr Vk hb)).book 3];rfl,fun m v hm=>by rw[PW,cell_of ((hb.block _ (ZX Tu.o)).trans Tu.o) m];simpa using hm,hb⟩
 have CC:=Zh (br.o w1.drew (Vk.o.trans ((YI w1 w1).drew.mono Vk.o.size)));refine R5 ?_;refine Z_.Zj (d:=5) (S:=(fun w'=>w'.cell? ⟨k,3,none⟩=some (.slice la ln lc)∧w'.rangeAt w 0 (Qb p sr (nb:Int) f)∧Below w1 w1 w')) X_ ?_ (fun X7=>?_)
 ·exact ZB.o _ (YI _ _).drew
 refine YP 0 (h:=YP 1 (h:=YP 2 (h:=YK 3 (h:=?_))));refine Z_.tk 4 ?_ rfl ?_ <| ?_
 rotate_left
 ·intro wS Ub;(try dsimp only at Ub)
  refine(Xq 59 (.tmp 3) ?_ w 0 ?_ (Qb p sr (nb:Int) f) _ Ub.2.1 underlying59 rfl X_).trans ?_;all_goals rfl
 try simp only[Z_.pt]
 refine YR 5 (h:=fun K hK=>?_);go_simp;refine CC.o.mono ?_;rintro e w2 ⟨rfl,Zb⟩;have Yg:=Zh ((YI w1 w1).drew.trans Zb);clear Zb;go_wp2_with fail
 refine Z_.Yf hK _ _ X_ ?_;clear hK K;try simp only[Z_.pt]
 refine YP 6 (h:=?_);refine Z_.Yx X_ ?_ _;refine QZ ?_;have WU:=Zh (Tr Vk Yg.o);have rS:Hid (w2.heap[w.heap.size]?=some (.cells (Qb p sr (nb:Int) f) 59 (0,0))):=(Yg.o.block _ (ZX Tu.o)).trans Tu.o;have ek:=Zh (wU.o.below WU.o);clear Vk Yg Tu ZB CC br X7;obtain⟨g,o,c,nm,a1,n1,c1,a2,n2,c2,hov,Ab⟩:=mU ek.o.ops hnL;have HOV:=Zh hov;have HLY:Hid (w2.cell? ⟨g,o+nb*7+3,none⟩=some (.int .i64 (opAt L nb).ZI)):=Pc Ab 3 rfl;have mB:=rS.o;clear hov Ab;go_upto_region 4 with(with_reducible refine Zl mB underlying59 ?_)
 clear mB;have HV4:Hid ((w2.alloc (.cells (Jm (some ⟨k,0,none⟩) p sr (nb:Int) f none 0 0 none 0 0 none 0 0) 164)).heap[w2.heap.size]?=some (.cells (Jm (some ⟨k,0,none⟩) p sr (nb:Int) f none 0 0 none 0 0 none 0 0) 164 (0,0))):=Z9 w2 _;have ej:Hid (Below w2 w2 (w2.alloc (.cells (Jm (some ⟨k,0,none⟩) p sr (nb:Int) f none 0 0 none 0 0 none 0 0) 164))):=Z' w2 _;have HGV:Hid (w.heap.size≤w2.heap.size):=WU.o.size;generalize w2.alloc (.cells (Jm (some ⟨k,0,none⟩) p sr (nb:Int) f none 0 0 none 0 0 none 0 0) 164)=w4 at *
 have Va:=Zh (Tr WU ej.o);have hnI:(nb:Int)<(L.length:Int):=P6.2 hnL
 have Rv:Hid (∀w',Below w4 w4 w'→w'.cell? ⟨k,0,none⟩=some (.slice (some ⟨g,o,none⟩) L.length c)∧w'.cell? ⟨w,2,none⟩=some (.int .i64 (nb:Int))∧w'.cell? ⟨g,o+nb*7+3,none⟩=some (.int .i64 (opAt L nb).ZI)):=fun w' hb=>
  have Zb:=Tr ej hb
  ⟨by rw[←HOV.o,cell_of (ek.o.below Zb).book 0];rfl,by rw[cell_of ((Zb.block _ (ZX rS.o)).trans rS.o) 2];rfl,ZG HLY.o Zb⟩
 refine R5 ?_;refine Z_.Zj (d:=11) (S:=(fun w'=>w'.cell? ⟨k,0,none⟩=some (.slice (some ⟨g,o,none⟩) L.length c)∧w'.cell? ⟨w,2,none⟩=some (.int .i64 (nb:Int))∧w'.cell? ⟨g,o+nb*7+3,none⟩=some (.int .i64 (opAt L nb).ZI))) X_ ?_ (fun X7=>?_)
 ·exact Rv.o _ (YI _ _).drew
 refine YP 0 (h:=YP 1 (h:=YP 2 (h:=YP 4 (h:=YK 3 (h:=YK 5 (h:=YP 6 (h:=YP 7 (h:=YK 8 (h:=YP 9 (h:=?_))))))))));refine YR 10 (h:=fun K hK=>?_);go_simp;refine Z_.Y9 hK _ _ ?_ (fun XC=>?_)
 ·exact Rv.o _ (by first|exact(YI _ _).drew|exact ZF (YI _ _).drew (Zw _) _)
 clear hK K;try simp only[Z_.pt]
 refine YR 11 (h:=fun K hK=>?_);refine Sl Zr 202 (.tmp 6) (.tmp 28) Zr Zr w4 (XH (ZC L (⟨p,sr,(nb:Int),f⟩:Zx) 0)).toArray Zr Zr 202 _ (Z9 w4.drew _) X_ Zr (Gq _) ?_;refine Z_.Yf hK _ _ X_ ?_;clear hK K;try simp only[Z_.pt]
 refine Z_.Yx X_ ?_ _;refine QZ ?_;go_upto_region 5 with fail
 have Hq:Hid (VO w ((w4.alloc (.cells (Qf 0 0 false false) 202)).drew.setRow w4 (XH (ZC L (⟨p,sr,(nb:Int),f⟩:Zx) 0)).toArray) w2 w4.heap.size k (⟨p,sr,(nb:Int),f⟩:Zx) (ZC L (⟨p,sr,(nb:Int),f⟩:Zx) 0) (.slice none 0 0) (.slice none 0 0) (.slice none 0 0) (.slice none 0 0) [] (.slice none 0 0) [] (.slice none 0 0) []):=
  have hv:w4.heap.size≠w2.heap.size:=fun e=>absurd (ZX HV4.o) Zo
  have ha:=ZF (AP w4) (Zw _) (.cells (Qf 0 0 false false) 202)
  ⟨Z0 (Tr Va ha) Va.o.size _,by rw[setRow_other _ _ _ _ (fun e=>hv e.symm)];exact(ha.block _ (ZX HV4.o)).trans HV4.o,setRow_heap _ _ _ _ _ _ (Z9 w4.drew _),TV _ _ _ _,TV _ _ _ _,TV _ _ _ _,(fun i h=>by cases h),HGV.o,Va.o.size⟩
 clear HV4 ej Va Rv WU rS HGV HLY;generalize((w4.alloc (.cells (Qf 0 0 false false) 202)).drew.setRow w4 (XH (ZC L (⟨p,sr,(nb:Int),f⟩:Zx) 0)).toArray)=w6 at *
 generalize w2.heap.size=V at *
 generalize w4.heap.size=T at *
 have b0:w6.cell? ⟨k,0,none⟩=some (.slice (some ⟨g,o,none⟩) L.length c):=by rw[←HOV.o,cell_of (wU.o.below Hq.o.Zf).book 0];rfl
 go_wp2_with fail
 clear b0;go_loopw [35] (fun s35 w'=>∃(j:Nat) (s:VS) (wv cv qv:Value),j≤L.length+1∧s35 = .int .i64 (j:Int)∧s=ZC L (⟨p,sr,(nb:Int),f⟩:Zx) (min j L.length)∧VO w w' V T k (⟨p,sr,(nb:Int),f⟩:Zx) s wv cv qv wv ((WL L (⟨p,sr,(nb:Int),f⟩:Zx) j).map VS.want) cv ((WL L (⟨p,sr,(nb:Int),f⟩:Zx) j).map VS.cur) qv ((WL L (⟨p,sr,(nb:Int),f⟩:Zx) j).map VS.quiet)) (fun s35 _=>L.length+1-(intOf s35).toNat)
 case atStart=>exact⟨0,_,_,_,_,Zo,rfl,by rw[Nat.min_eq_left (TH _)],Hq.o⟩
 case round=>
  obtain⟨j,s,wv,cv,qv,hj,rfl,hs,ho⟩:=hrel;have HO:=Zh ho;have HS:=Zh hs;clear ho hs Hq;by_cases hjn:j<L.length+1
  ·have dj:decide ((j:Int)<(L.length:Int)+1)=true:=Ww Zo;have wH:Hid (s=ZC L (⟨p,sr,(nb:Int),f⟩:Zx) j):=by show _=_;rw[HS.o,Nat.min_eq_left Zo]
   obtain⟨ws,hws⟩:∃ws,ws=(WL L (⟨p,sr,(nb:Int),f⟩:Zx) j).map VS.want:=⟨_,rfl⟩;obtain⟨cs,TN⟩:∃cs,cs=(WL L (⟨p,sr,(nb:Int),f⟩:Zx) j).map VS.cur:=⟨_,rfl⟩;obtain⟨qs,hqs⟩:∃qs,qs=(WL L (⟨p,sr,(nb:Int),f⟩:Zx) j).map VS.quiet:=⟨_,rfl⟩;have lw:ws.length≤300:=by rw[hws,Tx,Nb];omega
   have lc':cs.length≤300:=by rw[TN,Tx,Nb];omega
   have lq:qs.length≤300:=by rw[hqs,Tx,Nb];omega
   rw[←hws,←TN,←hqs]at HO;have HWS:=Zh hws;have iF:=Zh TN;have BW:=Zh hqs;clear hws TN hqs;obtain⟨wa,wc,rfl⟩:=Row.form (Row.Z4 HO.o.want);obtain⟨ca,cc,rfl⟩:=Row.form (Row.Z4 HO.o.cur);obtain⟨qa,qc,rfl⟩:=Row.form (Row.Z4 HO.o.quiet);obtain⟨sw,sc,sp,sm⟩:=s;go_upto_region 8 with fail
   have HO:=Zh (HO.o.below (YI _ _).drew);go_cut [] (fun wx=>∃wv' cv' qv',VO w wx V T k (⟨p,sr,(nb:Int),f⟩:Zx) ⟨sw,sc,sp,sm⟩ wv' cv' qv' wv' (ws++[sw]) cv' (cs++[sc]) qv' (qs++[sp||sm]))
   case first=>
    cases sp with
    | false=>
     refine R5 ?_;refine Z_.Zj (d:=33) (S:=(fun w'=>w'.cell? ⟨V,5,none⟩=some (.slice wa ws.length wc)∧w'.cell? ⟨V,6,none⟩=some (.slice ca cs.length cc)∧w'.cell? ⟨V,7,none⟩=some (.slice qa qs.length qc)∧w'.cell? ⟨T,0,none⟩=some (.int .i64 sw)∧w'.cell? ⟨T,1,none⟩=some (.int .i64 sc)∧w'.cell? ⟨T,2,none⟩=some (.bool false)∧w'.cell? ⟨T,3,none⟩=some (.bool sm))) X_ ?_ (fun X7=>?_)
     ·exact HO.o.facts
     refine YP 0 (h:=YP 1 (h:=YP 2 (h:=YP 3 (h:=YP 4 (h:=YP 5 (h:=YP 7 (h:=YP 11 (h:=YP 12 (h:=YP 13 (h:=YP 15 (h:=YP 19 (h:=YP 20 (h:=YP 21 (h:=YP 23 (h:=YK 6 (h:=YK 8 (h:=YK 14 (h:=YK 16 (h:=YK 22 (h:=YK 24 (h:=?_)))))))))))))))))))));refine Z_.TF (rs:=[9,17]) X_ Zi ?_;refine Z_.Wa (i:=9) rfl (fun K hK=>?_) ?_
     ·skip
      refine Ym Zr W9 (.tmp 46) Zr (.int .i64 sw) Zr Zr ?_;have tL:Hid ((wr.drew.alloc (.cells #[.int .i64 sw] 3)).heap[wr.drew.heap.size]?=some (.cells #[.int .i64 sw] 3 (0,0))):=Z9 wr.drew _;have U8:=Z' wr.drew (.cells #[.int .i64 sw] 3);have HO:=Zh (HO.o.below U8);clear U8;refine Z_.Y9 hK _ _ ?_ (fun XC=>?_)
      ·exact HO.o.facts
      clear hK K;try simp only[Z_.pt]
      refine Z_.TF (rs:=[10,17]) X_ Zi ?_;refine Z_.Wa (i:=10) rfl (fun K hK=>?_) ?_
      ·skip
       refine Xc Zr (.tmp 44) (.tmp 47) 72 Zr w W9 (.slice wa ws.length wc) ws.length (Ws ws) Zr HO.o.want ((wr.drew).heap.size) 1 1 [.int .i64 sw] Zr (row_one tL.o) rfl Nu Zd Zo Zo HO.o.Zf.size ?_;intro v10 Sm oL Ll IK;have MH:Hid (Sm.ownsRow w 3 1 v10 (ws++[sw]).length (Ws (ws++[sw]))):=pE;have HO:=Zh (HO.o.Cr Ll.o MH.o IK.o);obtain⟨xa,xc,hx⟩:∃a c,v10 = .slice a (ws.length+1) c:=by obtain⟨a,c,h⟩:=Row.form (Row.Z4 MH.o);exact⟨a,c,by rw[h,UG];rfl⟩
       subst hx;refine Z_.Y9 hK _ _ ?_ (fun Vz=>?_)
       ·exact HO.o.facts
       clear hK K;try simp only[Z_.pt]
       refine YR 17 (h:=fun K hK=>?_);refine Ym Zr W9 (.tmp 54) Zr (.int .i64 sc) Zr Zr ?_;have S3:Hid ((Sm.alloc (.cells #[.int .i64 sc] 3)).heap[Sm.heap.size]?=some (.cells #[.int .i64 sc] 3 (0,0))):=Z9 Sm _;have U8:=Z' Sm (.cells #[.int .i64 sc] 3);have HO:=Zh (HO.o.below U8);clear U8;refine Z_.Y9 hK _ _ ?_ (fun N1=>?_)
       ·exact HO.o.facts
       clear hK K;try simp only[Z_.pt]
       refine YR 18 (h:=fun K hK=>?_);refine Xc Zr (.tmp 52) (.tmp 55) 72 Zr w W9 (.slice ca cs.length cc) cs.length (Ws cs) Zr HO.o.cur ((Sm).heap.size) 1 1 [.int .i64 sc] Zr (row_one S3.o) rfl Nu Zd Zo Zo HO.o.Zf.size ?_;intro v18 Pm oM EY E5;have MI:Hid (Pm.ownsRow w 3 1 v18 (cs++[sc]).length (Ws (cs++[sc]))):=pD;have HO:=Zh (HO.o.Cq EY.o MI.o E5.o);obtain⟨ya,yc,hx⟩:∃a c,v18 = .slice a (cs.length+1) c:=by obtain⟨a,c,h⟩:=Row.form (Row.Z4 MI.o);exact⟨a,c,by rw[h,UG];rfl⟩
       subst hx;refine Z_.Y9 hK _ _ ?_ (fun I5=>?_)
       ·exact HO.o.facts
       clear hK K;try simp only[Z_.pt]
       refine YP 25 (h:=YP 26 (h:=YK 27 (h:=YP 28 (h:=?_))));refine YR 29 (h:=fun K hK=>?_);refine Ym Zr UN (.tmp 66) Zr (.bool sm) Zr Zr ?_;have E6:Hid ((Pm.alloc (.cells #[.bool sm] 4)).heap[Pm.heap.size]?=some (.cells #[.bool sm] 4 (0,0))):=Z9 Pm _;have U8:=Z' Pm (.cells #[.bool sm] 4);have HO:=Zh (HO.o.below U8);clear U8;refine Z_.Y9 hK _ _ ?_ (fun I6=>?_)
       ·exact HO.o.facts
       clear hK K;try simp only[Z_.pt]
       refine YR 30 (h:=fun K hK=>?_);refine Xc Zr (.tmp 60) (.tmp 67) 122 Zr w UN (.slice qa qs.length qc) qs.length (U5 qs) Zr HO.o.quiet ((Pm).heap.size) 1 1 [.bool sm] Zr (row_one E6.o) rfl Nu Zd Zo Zo HO.o.Zf.size ?_;intro v30 nM oN w_ jS;have ET:Hid (nM.ownsRow w 4 1 v30 (qs++[sm]).length (U5 (qs++[sm]))):=pC;exact Yx78
      refine Z_.Wa (i:=17) rfl (fun K hK=>?_) Z_.QB;refine Ym Zr W9 (.tmp 54) Zr (.int .i64 sc) Zr Zr ?_;have S3:Hid (((wr.drew.alloc (.cells #[.int .i64 sw] 3)).alloc (.cells #[.int .i64 sc] 3)).heap[(wr.drew.alloc (.cells #[.int .i64 sw] 3)).heap.size]?=some (.cells #[.int .i64 sc] 3 (0,0))):=Z9 (wr.drew.alloc (.cells #[.int .i64 sw] 3)) _;have tJ:Hid (∀i,(Value.slice wa ws.length wc).ownBlock=some i→i<(wr.drew.alloc (.cells #[.int .i64 sw] 3)).heap.size):=fun i hi=>Si HO.o.want hi
      have U8:=Z' (wr.drew.alloc (.cells #[.int .i64 sw] 3)) (.cells #[.int .i64 sc] 3);have tL:=Zh ((U8.block _ (ZX tL.o)).trans tL.o);have HO:=Zh (HO.o.below U8);clear U8;refine Z_.Y9 hK _ _ ?_ (fun A5=>?_)
      ·exact HO.o.facts
      clear hK K;try simp only[Z_.pt]
      refine YR 10 (h:=fun K hK=>?_);refine Xc Zr (.tmp 44) (.tmp 47) 72 Zr w W9 (.slice wa ws.length wc) ws.length (Ws ws) Zr HO.o.want ((wr.drew).heap.size) 1 1 [.int .i64 sw] Zr (row_one tL.o) rfl Nu Zd Zo Zo HO.o.Zf.size ?_;intro v10 Sm oL Ll IK;have MH:Hid (Sm.ownsRow w 3 1 v10 (ws++[sw]).length (Ws (ws++[sw]))):=pE;have S3:=Zh ((Ll.o.block _ (ZX S3.o) (fun e=>absurd (tJ.o _ e.symm) (Nat.lt_irrefl _))).trans S3.o);have HO:=Zh (HO.o.Cr Ll.o MH.o IK.o);obtain⟨xa,xc,hx⟩:∃a c,v10 = .slice a (ws.length+1) c:=by obtain⟨a,c,h⟩:=Row.form (Row.Z4 MH.o);exact⟨a,c,by rw[h,UG];rfl⟩
      subst hx;refine Z_.Y9 hK _ _ ?_ (fun A6=>?_)
      ·exact HO.o.facts
      clear hK K;try simp only[Z_.pt]
      refine YR 18 (h:=fun K hK=>?_);refine Xc Zr (.tmp 52) (.tmp 55) 72 Zr w W9 (.slice ca cs.length cc) cs.length (Ws cs) Zr HO.o.cur (((wr.drew.alloc (.cells #[.int .i64 sw] 3))).heap.size) 1 1 [.int .i64 sc] Zr (row_one S3.o) rfl Nu Zd Zo Zo HO.o.Zf.size ?_;intro v18 Pm oM EY E5;have MI:Hid (Pm.ownsRow w 3 1 v18 (cs++[sc]).length (Ws (cs++[sc]))):=pD;have HO:=Zh (HO.o.Cq EY.o MI.o E5.o);obtain⟨ya,yc,hx⟩:∃a c,v18 = .slice a (cs.length+1) c:=by obtain⟨a,c,h⟩:=Row.form (Row.Z4 MI.o);exact⟨a,c,by rw[h,UG];rfl⟩
      subst hx;refine Z_.Y9 hK _ _ ?_ (fun A7=>?_)
      ·exact HO.o.facts
      clear hK K;try simp only[Z_.pt]
      refine YP 25 (h:=YP 26 (h:=YK 27 (h:=YP 28 (h:=?_))));refine YR 29 (h:=fun K hK=>?_);refine Ym Zr UN (.tmp 66) Zr (.bool sm) Zr Zr ?_;have E6:Hid ((Pm.alloc (.cells #[.bool sm] 4)).heap[Pm.heap.size]?=some (.cells #[.bool sm] 4 (0,0))):=Z9 Pm _;have U8:=Z' Pm (.cells #[.bool sm] 4);have HO:=Zh (HO.o.below U8);clear U8;refine Z_.Y9 hK _ _ ?_ (fun A8=>?_)
      ·exact HO.o.facts
      clear hK K;try simp only[Z_.pt]
      refine YR 30 (h:=fun K hK=>?_);refine Xc Zr (.tmp 60) (.tmp 67) 122 Zr w UN (.slice qa qs.length qc) qs.length (U5 qs) Zr HO.o.quiet ((Pm).heap.size) 1 1 [.bool sm] Zr (row_one E6.o) rfl Nu Zd Zo Zo HO.o.Zf.size ?_;intro v30 nM oN w_ jS;have ET:Hid (nM.ownsRow w 4 1 v30 (qs++[sm]).length (U5 (qs++[sm]))):=pC;exact Yx77
     refine Z_.Wa (i:=17) rfl (fun K hK=>?_) Z_.QB;refine Ym Zr W9 (.tmp 54) Zr (.int .i64 sc) Zr Zr ?_;have S3:Hid ((wr.drew.alloc (.cells #[.int .i64 sc] 3)).heap[wr.drew.heap.size]?=some (.cells #[.int .i64 sc] 3 (0,0))):=Z9 wr.drew _;have tJ:Hid (∀i,(Value.slice wa ws.length wc).ownBlock=some i→i<wr.drew.heap.size):=fun i hi=>Si HO.o.want hi
     have U8:=Z' wr.drew (.cells #[.int .i64 sc] 3);have HO:=Zh (HO.o.below U8);clear U8;refine Z_.Y9 hK _ _ ?_ (fun gj=>?_)
     ·exact HO.o.facts
     clear hK K;try simp only[Z_.pt]
     refine YR 9 (h:=fun K hK=>?_);refine Ym Zr W9 (.tmp 46) Zr (.int .i64 sw) Zr Zr ?_;have tL:Hid (((wr.drew.alloc (.cells #[.int .i64 sc] 3)).alloc (.cells #[.int .i64 sw] 3)).heap[(wr.drew.alloc (.cells #[.int .i64 sc] 3)).heap.size]?=some (.cells #[.int .i64 sw] 3 (0,0))):=Z9 (wr.drew.alloc (.cells #[.int .i64 sc] 3)) _;have U8:=Z' (wr.drew.alloc (.cells #[.int .i64 sc] 3)) (.cells #[.int .i64 sw] 3);have S3:=Zh ((U8.block _ (ZX S3.o)).trans S3.o);have HO:=Zh (HO.o.below U8);clear U8;refine Z_.Y9 hK _ _ ?_ (fun gm=>?_)
     ·exact HO.o.facts
     clear hK K;try simp only[Z_.pt]
     refine YR 10 (h:=fun K hK=>?_);refine Xc Zr (.tmp 44) (.tmp 47) 72 Zr w W9 (.slice wa ws.length wc) ws.length (Ws ws) Zr HO.o.want (((wr.drew.alloc (.cells #[.int .i64 sc] 3))).heap.size) 1 1 [.int .i64 sw] Zr (row_one tL.o) rfl Nu Zd Zo Zo HO.o.Zf.size ?_;intro v10 Sm oL Ll IK;have MH:Hid (Sm.ownsRow w 3 1 v10 (ws++[sw]).length (Ws (ws++[sw]))):=pE;have S3:=Zh ((Ll.o.block _ (ZX S3.o) (fun e=>absurd (tJ.o _ e.symm) (Nat.lt_irrefl _))).trans S3.o);have HO:=Zh (HO.o.Cr Ll.o MH.o IK.o);obtain⟨xa,xc,hx⟩:∃a c,v10 = .slice a (ws.length+1) c:=by obtain⟨a,c,h⟩:=Row.form (Row.Z4 MH.o);exact⟨a,c,by rw[h,UG];rfl⟩
     subst hx;refine Z_.Y9 hK _ _ ?_ (fun gp=>?_)
     ·exact HO.o.facts
     clear hK K;try simp only[Z_.pt]
     refine YR 18 (h:=fun K hK=>?_);refine Xc Zr (.tmp 52) (.tmp 55) 72 Zr w W9 (.slice ca cs.length cc) cs.length (Ws cs) Zr HO.o.cur ((wr.drew).heap.size) 1 1 [.int .i64 sc] Zr (row_one S3.o) rfl Nu Zd Zo Zo HO.o.Zf.size ?_;intro v18 Pm oM EY E5;have MI:Hid (Pm.ownsRow w 3 1 v18 (cs++[sc]).length (Ws (cs++[sc]))):=pD;have HO:=Zh (HO.o.Cq EY.o MI.o E5.o);obtain⟨ya,yc,hx⟩:∃a c,v18 = .slice a (cs.length+1) c:=by obtain⟨a,c,h⟩:=Row.form (Row.Z4 MI.o);exact⟨a,c,by rw[h,UG];rfl⟩
     subst hx;refine Z_.Y9 hK _ _ ?_ (fun gy=>?_)
     ·exact HO.o.facts
     clear hK K;try simp only[Z_.pt]
     refine YP 25 (h:=YP 26 (h:=YK 27 (h:=YP 28 (h:=?_))));refine YR 29 (h:=fun K hK=>?_);refine Ym Zr UN (.tmp 66) Zr (.bool sm) Zr Zr ?_;have E6:Hid ((Pm.alloc (.cells #[.bool sm] 4)).heap[Pm.heap.size]?=some (.cells #[.bool sm] 4 (0,0))):=Z9 Pm _;have U8:=Z' Pm (.cells #[.bool sm] 4);have HO:=Zh (HO.o.below U8);clear U8;refine Z_.Y9 hK _ _ ?_ (fun gz=>?_)
     ·exact HO.o.facts
     clear hK K;try simp only[Z_.pt]
     refine YR 30 (h:=fun K hK=>?_);refine Xc Zr (.tmp 60) (.tmp 67) 122 Zr w UN (.slice qa qs.length qc) qs.length (U5 qs) Zr HO.o.quiet ((Pm).heap.size) 1 1 [.bool sm] Zr (row_one E6.o) rfl Nu Zd Zo Zo HO.o.Zf.size ?_;intro v30 nM oN w_ jS;have ET:Hid (nM.ownsRow w 4 1 v30 (qs++[sm]).length (U5 (qs++[sm]))):=pC;exact Yx76
    | true=>
     refine R5 ?_;refine Z_.Zj (d:=33) (S:=(fun w'=>w'.cell? ⟨V,5,none⟩=some (.slice wa ws.length wc)∧w'.cell? ⟨V,6,none⟩=some (.slice ca cs.length cc)∧w'.cell? ⟨V,7,none⟩=some (.slice qa qs.length qc)∧w'.cell? ⟨T,0,none⟩=some (.int .i64 sw)∧w'.cell? ⟨T,1,none⟩=some (.int .i64 sc)∧w'.cell? ⟨T,2,none⟩=some (.bool true)∧w'.cell? ⟨T,3,none⟩=some (.bool sm))) X_ ?_ (fun X7=>?_)
     ·exact HO.o.facts
     refine YP 0 (h:=YP 1 (h:=YP 2 (h:=YP 3 (h:=YP 4 (h:=YP 5 (h:=YP 7 (h:=YP 11 (h:=YP 12 (h:=YP 13 (h:=YP 15 (h:=YP 19 (h:=YP 20 (h:=YP 21 (h:=YP 23 (h:=YK 6 (h:=YK 8 (h:=YK 14 (h:=YK 16 (h:=YK 22 (h:=YK 24 (h:=?_)))))))))))))))))))));refine Z_.TF (rs:=[9,17]) X_ Zi ?_;refine Z_.Wa (i:=9) rfl (fun K hK=>?_) ?_
     ·skip
      refine Ym Zr W9 (.tmp 46) Zr (.int .i64 sw) Zr Zr ?_;have tL:Hid ((wr.drew.alloc (.cells #[.int .i64 sw] 3)).heap[wr.drew.heap.size]?=some (.cells #[.int .i64 sw] 3 (0,0))):=Z9 wr.drew _;have U8:=Z' wr.drew (.cells #[.int .i64 sw] 3);have HO:=Zh (HO.o.below U8);clear U8;refine Z_.Y9 hK _ _ ?_ (fun XC=>?_)
      ·exact HO.o.facts
      clear hK K;try simp only[Z_.pt]
      refine Z_.TF (rs:=[10,17]) X_ Zi ?_;refine Z_.Wa (i:=10) rfl (fun K hK=>?_) ?_
      ·skip
       refine Xc Zr (.tmp 44) (.tmp 47) 72 Zr w W9 (.slice wa ws.length wc) ws.length (Ws ws) Zr HO.o.want ((wr.drew).heap.size) 1 1 [.int .i64 sw] Zr (row_one tL.o) rfl Nu Zd Zo Zo HO.o.Zf.size ?_;intro v10 Sm oL Ll IK;have MH:Hid (Sm.ownsRow w 3 1 v10 (ws++[sw]).length (Ws (ws++[sw]))):=pE;have HO:=Zh (HO.o.Cr Ll.o MH.o IK.o);obtain⟨xa,xc,hx⟩:∃a c,v10 = .slice a (ws.length+1) c:=by obtain⟨a,c,h⟩:=Row.form (Row.Z4 MH.o);exact⟨a,c,by rw[h,UG];rfl⟩
       subst hx;refine Z_.Y9 hK _ _ ?_ (fun Vz=>?_)
       ·exact HO.o.facts
       clear hK K;try simp only[Z_.pt]
       refine YR 17 (h:=fun K hK=>?_);refine Ym Zr W9 (.tmp 54) Zr (.int .i64 sc) Zr Zr ?_;have S3:Hid ((Sm.alloc (.cells #[.int .i64 sc] 3)).heap[Sm.heap.size]?=some (.cells #[.int .i64 sc] 3 (0,0))):=Z9 Sm _;have U8:=Z' Sm (.cells #[.int .i64 sc] 3);have HO:=Zh (HO.o.below U8);clear U8;refine Z_.Y9 hK _ _ ?_ (fun N1=>?_)
       ·exact HO.o.facts
       clear hK K;try simp only[Z_.pt]
       refine YR 18 (h:=fun K hK=>?_);refine Xc Zr (.tmp 52) (.tmp 55) 72 Zr w W9 (.slice ca cs.length cc) cs.length (Ws cs) Zr HO.o.cur ((Sm).heap.size) 1 1 [.int .i64 sc] Zr (row_one S3.o) rfl Nu Zd Zo Zo HO.o.Zf.size ?_;intro v18 Pm oM EY E5;have MI:Hid (Pm.ownsRow w 3 1 v18 (cs++[sc]).length (Ws (cs++[sc]))):=pD;have HO:=Zh (HO.o.Cq EY.o MI.o E5.o);obtain⟨ya,yc,hx⟩:∃a c,v18 = .slice a (cs.length+1) c:=by obtain⟨a,c,h⟩:=Row.form (Row.Z4 MI.o);exact⟨a,c,by rw[h,UG];rfl⟩
       subst hx;refine Z_.Y9 hK _ _ ?_ (fun I5=>?_)
       ·exact HO.o.facts
       clear hK K;try simp only[Z_.pt]
       refine YP 25 (h:=YT 26 (h:=YT 27 (h:=YP 28 (h:=?_))));refine YR 29 (h:=fun K hK=>?_);refine Ym Zr UN (.tmp 66) Zr (.bool true) Zr Zr ?_;have E6:Hid ((Pm.alloc (.cells #[.bool true] 4)).heap[Pm.heap.size]?=some (.cells #[.bool true] 4 (0,0))):=Z9 Pm _;have U8:=Z' Pm (.cells #[.bool true] 4);have HO:=Zh (HO.o.below U8);clear U8;refine Z_.Y9 hK _ _ ?_ (fun I6=>?_)
       ·exact HO.o.facts
       clear hK K;try simp only[Z_.pt]
       refine YR 30 (h:=fun K hK=>?_);refine Xc Zr (.tmp 60) (.tmp 67) 122 Zr w UN (.slice qa qs.length qc) qs.length (U5 qs) Zr HO.o.quiet ((Pm).heap.size) 1 1 [.bool true] Zr (row_one E6.o) rfl Nu Zd Zo Zo HO.o.Zf.size ?_;intro v30 nM oN w_ jS;have ET:Hid (nM.ownsRow w 4 1 v30 (qs++[true]).length (U5 (qs++[true]))):=pC;exact Yx78
      refine Z_.Wa (i:=17) rfl (fun K hK=>?_) Z_.QB;refine Ym Zr W9 (.tmp 54) Zr (.int .i64 sc) Zr Zr ?_;have S3:Hid (((wr.drew.alloc (.cells #[.int .i64 sw] 3)).alloc (.cells #[.int .i64 sc] 3)).heap[(wr.drew.alloc (.cells #[.int .i64 sw] 3)).heap.size]?=some (.cells #[.int .i64 sc] 3 (0,0))):=Z9 (wr.drew.alloc (.cells #[.int .i64 sw] 3)) _;have tJ:Hid (∀i,(Value.slice wa ws.length wc).ownBlock=some i→i<(wr.drew.alloc (.cells #[.int .i64 sw] 3)).heap.size):=fun i hi=>Si HO.o.want hi
      have U8:=Z' (wr.drew.alloc (.cells #[.int .i64 sw] 3)) (.cells #[.int .i64 sc] 3);have tL:=Zh ((U8.block _ (ZX tL.o)).trans tL.o);have HO:=Zh (HO.o.below U8);clear U8;refine Z_.Y9 hK _ _ ?_ (fun A5=>?_)
      ·exact HO.o.facts
      clear hK K;try simp only[Z_.pt]
      refine YR 10 (h:=fun K hK=>?_);refine Xc Zr (.tmp 44) (.tmp 47) 72 Zr w W9 (.slice wa ws.length wc) ws.length (Ws ws) Zr HO.o.want ((wr.drew).heap.size) 1 1 [.int .i64 sw] Zr (row_one tL.o) rfl Nu Zd Zo Zo HO.o.Zf.size ?_;intro v10 Sm oL Ll IK;have MH:Hid (Sm.ownsRow w 3 1 v10 (ws++[sw]).length (Ws (ws++[sw]))):=pE;have S3:=Zh ((Ll.o.block _ (ZX S3.o) (fun e=>absurd (tJ.o _ e.symm) (Nat.lt_irrefl _))).trans S3.o);have HO:=Zh (HO.o.Cr Ll.o MH.o IK.o);obtain⟨xa,xc,hx⟩:∃a c,v10 = .slice a (ws.length+1) c:=by obtain⟨a,c,h⟩:=Row.form (Row.Z4 MH.o);exact⟨a,c,by rw[h,UG];rfl⟩
      subst hx;refine Z_.Y9 hK _ _ ?_ (fun A6=>?_)
      ·exact HO.o.facts
      clear hK K;try simp only[Z_.pt]
      refine YR 18 (h:=fun K hK=>?_);refine Xc Zr (.tmp 52) (.tmp 55) 72 Zr w W9 (.slice ca cs.length cc) cs.length (Ws cs) Zr HO.o.cur (((wr.drew.alloc (.cells #[.int .i64 sw] 3))).heap.size) 1 1 [.int .i64 sc] Zr (row_one S3.o) rfl Nu Zd Zo Zo HO.o.Zf.size ?_;intro v18 Pm oM EY E5;have MI:Hid (Pm.ownsRow w 3 1 v18 (cs++[sc]).length (Ws (cs++[sc]))):=pD;have HO:=Zh (HO.o.Cq EY.o MI.o E5.o);obtain⟨ya,yc,hx⟩:∃a c,v18 = .slice a (cs.length+1) c:=by obtain⟨a,c,h⟩:=Row.form (Row.Z4 MI.o);exact⟨a,c,by rw[h,UG];rfl⟩
      subst hx;refine Z_.Y9 hK _ _ ?_ (fun A7=>?_)
      ·exact HO.o.facts
      clear hK K;try simp only[Z_.pt]
      refine YP 25 (h:=YT 26 (h:=YT 27 (h:=YP 28 (h:=?_))));refine YR 29 (h:=fun K hK=>?_);refine Ym Zr UN (.tmp 66) Zr (.bool true) Zr Zr ?_;have E6:Hid ((Pm.alloc (.cells #[.bool true] 4)).heap[Pm.heap.size]?=some (.cells #[.bool true] 4 (0,0))):=Z9 Pm _;have U8:=Z' Pm (.cells #[.bool true] 4);have HO:=Zh (HO.o.below U8);clear U8;refine Z_.Y9 hK _ _ ?_ (fun A8=>?_)
      ·exact HO.o.facts
      clear hK K;try simp only[Z_.pt]
      refine YR 30 (h:=fun K hK=>?_);refine Xc Zr (.tmp 60) (.tmp 67) 122 Zr w UN (.slice qa qs.length qc) qs.length (U5 qs) Zr HO.o.quiet ((Pm).heap.size) 1 1 [.bool true] Zr (row_one E6.o) rfl Nu Zd Zo Zo HO.o.Zf.size ?_;intro v30 nM oN w_ jS;have ET:Hid (nM.ownsRow w 4 1 v30 (qs++[true]).length (U5 (qs++[true]))):=pC;exact Yx77
     refine Z_.Wa (i:=17) rfl (fun K hK=>?_) Z_.QB;refine Ym Zr W9 (.tmp 54) Zr (.int .i64 sc) Zr Zr ?_;have S3:Hid ((wr.drew.alloc (.cells #[.int .i64 sc] 3)).heap[wr.drew.heap.size]?=some (.cells #[.int .i64 sc] 3 (0,0))):=Z9 wr.drew _;have tJ:Hid (∀i,(Value.slice wa ws.length wc).ownBlock=some i→i<wr.drew.heap.size):=fun i hi=>Si HO.o.want hi
     have U8:=Z' wr.drew (.cells #[.int .i64 sc] 3);have HO:=Zh (HO.o.below U8);clear U8;refine Z_.Y9 hK _ _ ?_ (fun gj=>?_)
     ·exact HO.o.facts
     clear hK K;try simp only[Z_.pt]
     refine YR 9 (h:=fun K hK=>?_);refine Ym Zr W9 (.tmp 46) Zr (.int .i64 sw) Zr Zr ?_;have tL:Hid (((wr.drew.alloc (.cells #[.int .i64 sc] 3)).alloc (.cells #[.int .i64 sw] 3)).heap[(wr.drew.alloc (.cells #[.int .i64 sc] 3)).heap.size]?=some (.cells #[.int .i64 sw] 3 (0,0))):=Z9 (wr.drew.alloc (.cells #[.int .i64 sc] 3)) _;have U8:=Z' (wr.drew.alloc (.cells #[.int .i64 sc] 3)) (.cells #[.int .i64 sw] 3);have S3:=Zh ((U8.block _ (ZX S3.o)).trans S3.o);have HO:=Zh (HO.o.below U8);clear U8;refine Z_.Y9 hK _ _ ?_ (fun gm=>?_)
     ·exact HO.o.facts
     clear hK K;try simp only[Z_.pt]
     refine YR 10 (h:=fun K hK=>?_);refine Xc Zr (.tmp 44) (.tmp 47) 72 Zr w W9 (.slice wa ws.length wc) ws.length (Ws ws) Zr HO.o.want (((wr.drew.alloc (.cells #[.int .i64 sc] 3))).heap.size) 1 1 [.int .i64 sw] Zr (row_one tL.o) rfl Nu Zd Zo Zo HO.o.Zf.size ?_;intro v10 Sm oL Ll IK;have MH:Hid (Sm.ownsRow w 3 1 v10 (ws++[sw]).length (Ws (ws++[sw]))):=pE;have S3:=Zh ((Ll.o.block _ (ZX S3.o) (fun e=>absurd (tJ.o _ e.symm) (Nat.lt_irrefl _))).trans S3.o);have HO:=Zh (HO.o.Cr Ll.o MH.o IK.o);obtain⟨xa,xc,hx⟩:∃a c,v10 = .slice a (ws.length+1) c:=by obtain⟨a,c,h⟩:=Row.form (Row.Z4 MH.o);exact⟨a,c,by rw[h,UG];rfl⟩
     subst hx;refine Z_.Y9 hK _ _ ?_ (fun gp=>?_)
     ·exact HO.o.facts
     clear hK K;try simp only[Z_.pt]
     refine YR 18 (h:=fun K hK=>?_);refine Xc Zr (.tmp 52) (.tmp 55) 72 Zr w W9 (.slice ca cs.length cc) cs.length (Ws cs) Zr HO.o.cur ((wr.drew).heap.size) 1 1 [.int .i64 sc] Zr (row_one S3.o) rfl Nu Zd Zo Zo HO.o.Zf.size ?_;intro v18 Pm oM EY E5;have MI:Hid (Pm.ownsRow w 3 1 v18 (cs++[sc]).length (Ws (cs++[sc]))):=pD;have HO:=Zh (HO.o.Cq EY.o MI.o E5.o);obtain⟨ya,yc,hx⟩:∃a c,v18 = .slice a (cs.length+1) c:=by obtain⟨a,c,h⟩:=Row.form (Row.Z4 MI.o);exact⟨a,c,by rw[h,UG];rfl⟩
     subst hx;refine Z_.Y9 hK _ _ ?_ (fun gy=>?_)
     ·exact HO.o.facts
     clear hK K;try simp only[Z_.pt]
     refine YP 25 (h:=YT 26 (h:=YT 27 (h:=YP 28 (h:=?_))));refine YR 29 (h:=fun K hK=>?_);refine Ym Zr UN (.tmp 66) Zr (.bool true) Zr Zr ?_;have E6:Hid ((Pm.alloc (.cells #[.bool true] 4)).heap[Pm.heap.size]?=some (.cells #[.bool true] 4 (0,0))):=Z9 Pm _;have U8:=Z' Pm (.cells #[.bool true] 4);have HO:=Zh (HO.o.below U8);clear U8;refine Z_.Y9 hK _ _ ?_ (fun gz=>?_)
     ·exact HO.o.facts
     clear hK K;try simp only[Z_.pt]
     refine YR 30 (h:=fun K hK=>?_);refine Xc Zr (.tmp 60) (.tmp 67) 122 Zr w UN (.slice qa qs.length qc) qs.length (U5 qs) Zr HO.o.quiet ((Pm).heap.size) 1 1 [.bool true] Zr (row_one E6.o) rfl Nu Zd Zo Zo HO.o.Zf.size ?_;intro v30 nM oN w_ jS;have ET:Hid (nM.ownsRow w 4 1 v30 (qs++[true]).length (U5 (qs++[true]))):=pC;exact Yx76
   case rest=>
    obtain⟨w9,rfl⟩:∃W:World,W=wc:=⟨_,rfl⟩;obtain⟨wv,cv,qv,ho⟩:=hcut;clear HO;have HO:=Zh ho;clear ho;have HR:Hid (Oy w9 wv cv qv (WL L (⟨p,sr,(nb:Int),f⟩:Zx) (j+1))):=HO.o.rows (by rw[Um,Nv,HWS.o,←wH.o];rfl) (by rw[Um,Nv,iF.o,←wH.o];rfl) (by rw[Um,Nv,BW.o,←wH.o];rfl);have Hf:Hid (VB w9 V k _ _ _ _ L (⟨p,sr,(nb:Int),f⟩:Zx) wv cv qv):=VB.of wU.o HO.o.Zf HO.o.view;have b0:w9.cell? ⟨k,0,none⟩=some (.slice (some ⟨g,o,none⟩) L.length c):=by rw[←HOV.o,cell_of Hf.o.book 0];rfl
    have EW:Hid (ws++[sw]=(WL L (⟨p,sr,(nb:Int),f⟩:Zx) (j+1)).map VS.want):=by show _=_;rw[Um,Nv,HWS.o,←wH.o];rfl
    have EC:Hid (cs++[sc]=(WL L (⟨p,sr,(nb:Int),f⟩:Zx) (j+1)).map VS.cur):=by show _=_;rw[Um,Nv,iF.o,←wH.o];rfl
    have EQ:Hid (qs++[sp||sm]=(WL L (⟨p,sr,(nb:Int),f⟩:Zx) (j+1)).map VS.quiet):=by show _=_;rw[Um,Nv,BW.o,←wH.o];rfl
    by_cases RN:j<L.length
    ·have CN:=Zh (py Hf.o RN (HR.o.at (QW L (⟨p,sr,(nb:Int),f⟩:Zx) (Nat.lt_succ_self j))));have iK:Hid (UQ L (⟨p,sr,(nb:Int),f⟩:Zx) (ZC L (⟨p,sr,(nb:Int),f⟩:Zx) j) j=ZC L (⟨p,sr,(nb:Int),f⟩:Zx) (j+1)):=rfl;rw[←wH.o]at CN iK;rw[iK.o]at CN;have kT:w9.heap[T]?=some (.cells (Qf sw sc sp sm) 202 (0,0)):=HO.o.st;have Cy:(j:Int)<(L.length:Int):=P6.2 RN;generalize hS2:ZC L (⟨p,sr,(nb:Int),f⟩:Zx) (j+1)=s2 at *
     have PV:=Zh hS2;clear hS2 iK wH HS HR Hf;obtain⟨tw,tc,tp,tm⟩:=s2;dsimp only[XH]at CN;go_wp2_with (first|(with_reducible refine Zl kT underlying202 ?_)|(go_at_call 114;refine CN.o.mono ?_;rintro e Sm ⟨rfl,MU⟩;have Nl:=Zh (HO.o.below MU);have kT2:Sm.heap[T]?=some (.cells (Qf sw sc sp sm) 202 (0,0)):=Nl.o.st;clear kT b0 MU)|(with_reducible refine Zs (cells:=(Qf tw tc tp tm)) kT2 ?_))
     go_roundw
     case rel=>exact⟨j+1,⟨tw,tc,tp,tm⟩,wv,cv,qv,Zo,Zn,by rw[Nat.min_eq_left Zo,PV.o],by rw[←EW.o,←EC.o,←EQ.o];exact Nl.o.setT ⟨tw,tc,tp,tm⟩⟩
     case measure=>simp[intOf];omega
    ·have Mi:j=L.length:=by omega
     have dl:decide ((j:Int)<(L.length:Int))=false:=Wz Zo;have dl2:decide (j<L.length)=false:=Wz Zo;clear RN;have HJ:=Zh Mi;clear Mi;go_wp2_with fail
     go_roundw
     case rel=>exact⟨j+1,⟨sw,sc,sp,sm⟩,wv,cv,qv,Zo,Zn,by rw[wH.o,HJ.o,Nat.min_eq_right Zo],by rw[←EW.o,←EC.o,←EQ.o];exact HO.o⟩
     case measure=>simp[intOf];omega
  ·have Mi:j=L.length+1:=by omega
   have dj:decide ((j:Int)<(L.length:Int)+1)=false:=Wz Zo;have HJ:=Zh Mi;clear Mi hjn;go_wp2_with fail
   go_ret;exact⟨⟨V,wv,cv,qv,rfl,VB.of wU.o HO.o.Zf HO.o.view,HO.o.rows (by rw[HJ.o]) (by rw[HJ.o]) (by rw[HJ.o])⟩,HO.o.Zf⟩
open Go.Proofs.Rm (YF)
open Go.Proofs.ND (Xu)
open Go.Proofs.Mem
theorem Cl(p s at':Int)(ls:List Zx):∀k,∀z∈Yc p s at' ls k,∃y∈ls,z=y∨z={y with fin:=at'}
 | 0,z,h=>⟨z,h,WO rfl⟩
 | k+1,z,h=>by
  unfold Yc at h;split at h
  ·rcases List.mem_or_eq_of_mem_set h with h1|h1
   ·exact⟨z,h1,WO rfl⟩
   ·by_cases hk:k<ls.length
    ·refine⟨ls.getD k Wp,?_,WB h1⟩;rw[Q_,Ve hk];exact OC hk
    ·rw[List.set_eq_of_length_le Zo]at h;exact⟨z,h,WO rfl⟩
  ·exact Cl p s at' ls k z h
theorem FX{n at':Int}(h0:0≤at')(h1:at'<n):∀(ts:List YF) (ls:List Zx),(∀z∈ls,0≤z.Mr∧z.Mr<n∧z.fin≤n)→∀z∈Xd n at' ls ts,0≤z.Mr∧z.Mr<n∧z.fin≤n
 | [],_,h=>h
 | t :: ts,ls,h=>by
  refine FX h0 h1 ts (Yr n at' ls t) fun z hz=>?_
  unfold Yr at hz;split at hz
  ·rcases EN.1 hz with h2|h2
   ·exact h z h2
   ·rw[J7]at h2;subst h2;exact⟨h0,h1,Int.le_refl _⟩
  split at hz
  ·obtain⟨y,hy,h2|h2⟩:=Cl _ _ _ _ _ z hz
   ·rw[h2];exact h y hy
   ·rw[h2];have:=h y hy;exact⟨this.1,this.2.1,by show at'≤n;omega⟩
  ·exact h z hz
theorem Uu(L:List WE)(n:Nat):∀k,k≤n→∀z∈Zu L n k,0≤z.Mr∧z.Mr<n∧z.fin≤n
 | 0,_=>fun z h=>by cases h
 | k+1,hk=>FX Zo Zo _ _ (Uu L n k Zo)
theorem RS.bkf{w w':World}{k g b:Nat}{ov av mv lv:Value}{L:List WE}{M:List TK}{R:Rm.Room}{ep:Int}(h:RS w w' k g b ov L L.length L.length av mv lv M R ep)(ho:WY w' ov L):BkF w' k ov av mv lv L (Zu L L.length L.length):=by
 have h1:=Row.Z4 h.book.XX;rw[XK]at h1;exact⟨h.book.Y8,ho,h1,⟨M,Row.Z4 h.book.KG,h.book.each,h.aX⟩,Row.Z4 h.book.QM⟩
theorem tR(v:Value)(L:List WE)(w:World)(hT:Xu w)(h:WY w v L)(hL:L.length≤256) :
  Calls prog 27 #[v] w fun e w'=>(∃lv,e = .returned lv∧Row w' 59 lv (Zu L L.length L.length).length ((Zu L L.length L.length).flatMap Z8))∧Below w w w':=by
 have C:=Zh (J5 v L w hT h hL);clear hT h hL;go_enter func27,ntmps27;go_wp2_with (go_at_call 53;refine C.o.mono ?_;rintro e w2 ⟨k,g,b,ov,av,mv,lv,M,R,ep,rfl,-,TP⟩;have Av:=Zh TP;have k3:w2.cell? ⟨k,3,none⟩=some lv:=(Zc TP.book.Y8 3 rfl);clear TP)
 go_ret;exact⟨⟨lv,rfl,Row.Z4 Av.o.book.QM⟩,Av.o.Zf⟩
theorem NN(v:Value)(L:List WE)(x:Zx)(w:World)(hT:Xu w)(h:WY w v L)(hL:L.length≤256)(hx:x ∉ Zu L L.length L.length) :
  Calls prog 55 #[v,.agg (Z8 x).toArray] w fun e w'=>e = .returned (.pointer none)∧Below w w w':=by
 have HLK:=Zh (Uu L L.length L.length (Zw _));have HX:=Zh hx;have Tu:Hid ((w.alloc (.cells (Z8 x).toArray 59)).heap[w.heap.size]?=some (.cells (Z8 x).toArray 59 (0,0))):=Z9 w _;have Vk:Hid (Below w w (w.alloc (.cells (Z8 x).toArray 59))):=Z' w _;have CR0:=Zh (fun(w':World) (hb:Below w w w')=>J5 v L w' (Utf8Tabs_below hT hb) (h.below hb) hL);have HL:=Zh hL;clear hx hT h hL;obtain⟨p,sr,b,f⟩:=x;dsimp only[Z8]at Tu Vk ⊢;go_enter func55,ntmps55;go_upto_region 1 with fail
 generalize w.alloc (.cells (Qb p sr b f) 59)=w1 at *
 have ZB:Hid (∀w',Below w1 w1 w'→w'.rangeAt w 0 (Qb p sr b f)∧Below w1 w1 w'):=fun w' hb=>⟨fun m v hm=>by rw[PW,cell_of ((hb.block _ (ZX Tu.o)).trans Tu.o) m];simpa using hm,hb⟩
 have CR:=Zh (CR0.o w1.drew (Vk.o.trans ((YI w1 w1).drew.mono Vk.o.size)));clear CR0;refine R5 ?_;refine Z_.Zj (d:=3) (S:=(fun w'=>w'.rangeAt w 0 (Qb p sr b f)∧Below w1 w1 w')) X_ ?_ (fun _=>?_)
 ·exact ZB.o _ (YI _ _).drew
 refine YP 0 (h:=?_);refine Z_.tk 2 ?_ rfl ?_ <| ?_
 rotate_left
 ·exact bZ
 try simp only[Z_.pt]
 refine YR 1 (h:=fun K hK=>?_);go_simp;refine CR.o.mono ?_;rintro e w2 ⟨k,g,b',ov,av,mv,lv,M,R,ep,rfl,ho,TP⟩;have HF:=Zh (TP.bkf ho);have Yg:=Zh ((YI w1 w1).drew.trans TP.Zf);clear ho TP;go_wp2_with fail
 refine Z_.Y9 hK _ _ ?_ (fun _=>?_)
 ·exact ZB.o _ (by first|with_reducible exact Yg.o|with_reducible exact(YI _ _).drew)
 clear hK K;try simp only[Z_.pt]
 refine YR 3 (h:=fun K hK=>?_);go_simp;refine(pq HF.o _ HX.o).mono ?_;rintro e w3 ⟨rfl,WT⟩;have WU:=Zh WT;clear WT;go_wp2_with fail
 refine Z_.Yf hK _ _ X_ ?_;clear hK K;try simp only[Z_.pt]
 refine YP 4 (h:=?_);refine Z_.Yx X_ ?_ _;refine QZ ?_;go_wp2_with fail
 go_ret;exact⟨rfl,Vk.o.trans ((Tr Yg WU.o).mono Vk.o.size)⟩
theorem NQ(v:Value)(L:List WE)(x:Zx)(w:World)(hT:Xu w)(h:WY w v L)(hL:L.length≤256)(hx:x∈Zu L L.length L.length) :
  Calls prog 55 #[v,.agg (Z8 x).toArray] w fun e w'=>(∃V k ov av mv lv wv cv qv,e = .returned (.pointer (some ⟨V,0,none⟩))∧VB w' V k ov av mv lv L x wv cv qv∧Oy w' wv cv qv (WL L x (L.length+1)))∧Below w w w':=by
 have HLK:=Zh (Uu L L.length L.length (Zw _));have HX:=Zh hx;have Tu:Hid ((w.alloc (.cells (Z8 x).toArray 59)).heap[w.heap.size]?=some (.cells (Z8 x).toArray 59 (0,0))):=Z9 w _;have Vk:Hid (Below w w (w.alloc (.cells (Z8 x).toArray 59))):=Z' w _;have CR0:=Zh (fun(w':World) (hb:Below w w w')=>J5 v L w' (Utf8Tabs_below hT hb) (h.below hb) hL);have HL:=Zh hL;clear hx hT h hL;obtain⟨p,sr,b,f⟩:=x;dsimp only[Z8]at Tu Vk ⊢;go_enter func55,ntmps55;go_upto_region 1 with fail
 generalize w.alloc (.cells (Qb p sr b f) 59)=w1 at *
 have ZB:Hid (∀w',Below w1 w1 w'→w'.rangeAt w 0 (Qb p sr b f)∧Below w1 w1 w'):=fun w' hb=>⟨fun m v hm=>by rw[PW,cell_of ((hb.block _ (ZX Tu.o)).trans Tu.o) m];simpa using hm,hb⟩
 have CR:=Zh (CR0.o w1.drew (Vk.o.trans ((YI w1 w1).drew.mono Vk.o.size)));clear CR0;refine R5 ?_;refine Z_.Zj (d:=3) (S:=(fun w'=>w'.rangeAt w 0 (Qb p sr b f)∧Below w1 w1 w')) X_ ?_ (fun _=>?_)
 ·exact ZB.o _ (YI _ _).drew
 refine YP 0 (h:=?_);refine Z_.tk 2 ?_ rfl ?_ <| ?_
 rotate_left
 ·exact bZ
 try simp only[Z_.pt]
 refine YR 1 (h:=fun K hK=>?_);go_simp;refine CR.o.mono ?_;rintro e w2 ⟨k,g,b',ov,av,mv,lv,M,R,ep,rfl,ho,TP⟩;have HF:=Zh (TP.bkf ho);have Yg:=Zh ((YI w1 w1).drew.trans TP.Zf);clear ho TP;go_wp2_with fail
 refine Z_.Y9 hK _ _ ?_ (fun _=>?_)
 ·exact ZB.o _ (by first|with_reducible exact Yg.o|with_reducible exact(YI _ _).drew)
 clear hK K;try simp only[Z_.pt]
 refine YR 3 (h:=fun K hK=>?_);go_simp;refine(px HF.o HL.o _ HX.o (HLK.o _ HX.o).1 (HLK.o _ HX.o).2.1).mono ?_;rintro e w3 ⟨⟨V,wv,cv,qv,rfl,sG,sH⟩,WT⟩;have WU:=Zh WT;have Hf:=Zh sG;have HVR:=Zh sH;clear WT sG sH;go_wp2_with fail
 refine Z_.Yf hK _ _ X_ ?_;clear hK K;try simp only[Z_.pt]
 refine YP 4 (h:=?_);refine Z_.Yx X_ ?_ _;refine QZ ?_;go_wp2_with fail
 go_ret;exact⟨⟨V,_,_,_,_,_,wv,cv,qv,rfl,Hf.o,HVR.o⟩,Vk.o.trans ((Tr Yg WU.o).mono Vk.o.size)⟩
def Oo(L:List WE)(x:Zx)(at':Int):Int:=if x∈Zu L L.length L.length then(if there x at' then(ZC L x at'.toNat).want else -1)else -1
theorem pd(v:Value)(L:List WE)(x:Zx)(at':Int)(w:World)(hT:Xu w)(h:WY w v L)(hL:L.length≤256) :
  Calls prog 31 #[v,.agg (Z8 x).toArray,.int .i64 at'] w fun e w'=>e = .returned (.int .i64 (Oo L x at'))∧Below w w w':=by
 have Tu:Hid (Below w w (w.alloc (.cells (Z8 x).toArray 59))):=Z' w _;have hz:(w.alloc (.cells (Z8 x).toArray 59)).heap[w.heap.size]?=some (.cells (Z8 x).toArray 59 (0,0)):=Z9 w _;have HX:Hid (Oo L x at'=if x∈Zu L L.length L.length then(if there x at' then(ZC L x at'.toNat).want else -1)else -1):=rfl;generalize Oo L x at'=X at *
 by_cases hx:x∈Zu L L.length L.length
 ·have We:=Uu L L.length L.length (Zw _) x hx;have CV:=Zh (NQ v L x (w.alloc (.cells (Z8 x).toArray 59)) (Utf8Tabs_below hT Tu.o) (h.below Tu.o) hL hx);have VC:Hid (X=if there x at' then(ZC L x at'.toNat).want else -1):=by show _=_;rw[HX.o,ZU hx]
  have H0:=Zh We.1;have H1:=Zh We.2.2;clear hx We HX hT h hL;obtain⟨p,sr,b,f⟩:=x;dsimp only[Z8]at CV Tu hz ⊢;go_enter func31,ntmps31;go_wp2_with (first|(with_reducible refine Zl hz underlying59 ?_)|(go_at_call 55;refine CV.o.mono ?_;rintro e w2 ⟨⟨V,k,ov,av,mv,lv,wv,cv,qv,rfl,sG,sH⟩,Zb⟩;have Yg:=Zh (Tr Tu Zb);have CW:=Zh (pA V k L _ wv cv qv w2 sG.view sH H0.o H1.o at');rw[←VC.o]at CW;clear sG sH Zb)|(go_at_call 62;refine CW.o.mono ?_;rintro e w' ⟨rfl,rfl⟩))
  go_ret;exact⟨rfl,Yg.o⟩
 ·have CV:=Zh (NN v L x (w.alloc (.cells (Z8 x).toArray 59)) (Utf8Tabs_below hT Tu.o) (h.below Tu.o) hL hx);have VC:Hid (X=-1):=by show _=_;rw[HX.o,Z3 hx]
  clear hx HX hT h hL;obtain⟨p,sr,b,f⟩:=x;dsimp only[Z8]at CV Tu hz ⊢;go_enter func31,ntmps31;go_wp2_with (first|(with_reducible refine Zl hz underlying59 ?_)|(go_at_call 55;refine CV.o.mono ?_;rintro e w2 ⟨rfl,Zb⟩;have Yg:=Zh (Tr Tu Zb);have CW:=Zh (pB w2 at');clear Zb)|(go_at_call 62;refine CW.o.mono ?_;rintro e w' ⟨rfl,rfl⟩))
  go_ret;exact⟨by rw[VC.o];rfl,Yg.o⟩
def MO(L:List WE)(x:Zx)(at':Int):Int:=if x∈Zu L L.length L.length then(if there x at' then(ZC L x at'.toNat).cur else -1)else -1
theorem xJ(v:Value)(L:List WE)(x:Zx)(at':Int)(w:World)(hT:Xu w)(h:WY w v L)(hL:L.length≤256) :
  Calls prog 35 #[v,.agg (Z8 x).toArray,.int .i64 at'] w fun e w'=>e = .returned (.int .i64 (MO L x at'))∧Below w w w':=by
 have Tu:Hid (Below w w (w.alloc (.cells (Z8 x).toArray 59))):=Z' w _;have hz:(w.alloc (.cells (Z8 x).toArray 59)).heap[w.heap.size]?=some (.cells (Z8 x).toArray 59 (0,0)):=Z9 w _;have HX:Hid (MO L x at'=if x∈Zu L L.length L.length then(if there x at' then(ZC L x at'.toNat).cur else -1)else -1):=rfl;generalize MO L x at'=X at *
 by_cases hx:x∈Zu L L.length L.length
 ·have We:=Uu L L.length L.length (Zw _) x hx;have CV:=Zh (NQ v L x (w.alloc (.cells (Z8 x).toArray 59)) (Utf8Tabs_below hT Tu.o) (h.below Tu.o) hL hx);have VC:Hid (X=if there x at' then(ZC L x at'.toNat).cur else -1):=by show _=_;rw[HX.o,ZU hx]
  have H0:=Zh We.1;have H1:=Zh We.2.2;clear hx We HX hT h hL;obtain⟨p,sr,b,f⟩:=x;dsimp only[Z8]at CV Tu hz ⊢;go_enter func35,ntmps35;go_wp2_with (first|(with_reducible refine Zl hz underlying59 ?_)|(go_at_call 55;refine CV.o.mono ?_;rintro e w2 ⟨⟨V,k,ov,av,mv,lv,wv,cv,qv,rfl,sG,sH⟩,Zb⟩;have Yg:=Zh (Tr Tu Zb);have CW:=Zh (j0 V k L _ wv cv qv w2 sG.view sH H0.o H1.o at');rw[←VC.o]at CW;clear sG sH Zb)|(go_at_call 65;refine CW.o.mono ?_;rintro e w' ⟨rfl,rfl⟩))
  go_ret;exact⟨rfl,Yg.o⟩
 ·have CV:=Zh (NN v L x (w.alloc (.cells (Z8 x).toArray 59)) (Utf8Tabs_below hT Tu.o) (h.below Tu.o) hL hx);have VC:Hid (X=-1):=by show _=_;rw[HX.o,Z3 hx]
  clear hx HX hT h hL;obtain⟨p,sr,b,f⟩:=x;dsimp only[Z8]at CV Tu hz ⊢;go_enter func35,ntmps35;go_wp2_with (first|(with_reducible refine Zl hz underlying59 ?_)|(go_at_call 55;refine CV.o.mono ?_;rintro e w2 ⟨rfl,Zb⟩;have Yg:=Zh (Tr Tu Zb);have CW:=Zh (j3 w2 at');clear Zb)|(go_at_call 65;refine CW.o.mono ?_;rintro e w' ⟨rfl,rfl⟩))
  go_ret;exact⟨by rw[VC.o];rfl,Yg.o⟩
def Sr(L:List WE)(x:Zx)(at':Int):Bool:=if x∈Zu L L.length L.length then(if there x at' then(ZC L x at'.toNat).quiet else true)else true
theorem E7(v:Value)(L:List WE)(x:Zx)(at':Int)(w:World)(hT:Xu w)(h:WY w v L)(hL:L.length≤256) :
  Calls prog 33 #[v,.agg (Z8 x).toArray,.int .i64 at'] w fun e w'=>e = .returned (.bool (Sr L x at'))∧Below w w w':=by
 have Tu:Hid (Below w w (w.alloc (.cells (Z8 x).toArray 59))):=Z' w _;have hz:(w.alloc (.cells (Z8 x).toArray 59)).heap[w.heap.size]?=some (.cells (Z8 x).toArray 59 (0,0)):=Z9 w _;have HX:Hid (Sr L x at'=if x∈Zu L L.length L.length then(if there x at' then(ZC L x at'.toNat).quiet else true)else true):=rfl;generalize Sr L x at'=X at *
 by_cases hx:x∈Zu L L.length L.length
 ·have We:=Uu L L.length L.length (Zw _) x hx;have CV:=Zh (NQ v L x (w.alloc (.cells (Z8 x).toArray 59)) (Utf8Tabs_below hT Tu.o) (h.below Tu.o) hL hx);have VC:Hid (X=if there x at' then(ZC L x at'.toNat).quiet else true):=by show _=_;rw[HX.o,ZU hx]
  have H0:=Zh We.1;have H1:=Zh We.2.2;clear hx We HX hT h hL;obtain⟨p,sr,b,f⟩:=x;dsimp only[Z8]at CV Tu hz ⊢;go_enter func33,ntmps33;go_wp2_with (first|(with_reducible refine Zl hz underlying59 ?_)|(go_at_call 55;refine CV.o.mono ?_;rintro e w2 ⟨⟨V,k,ov,av,mv,lv,wv,cv,qv,rfl,sG,sH⟩,Zb⟩;have Yg:=Zh (Tr Tu Zb);have CW:=Zh (tW V k L _ wv cv qv w2 sG.view sH H0.o H1.o at');rw[←VC.o]at CW;clear sG sH Zb)|(go_at_call 64;refine CW.o.mono ?_;rintro e w' ⟨rfl,rfl⟩))
  go_ret;exact⟨rfl,Yg.o⟩
 ·have CV:=Zh (NN v L x (w.alloc (.cells (Z8 x).toArray 59)) (Utf8Tabs_below hT Tu.o) (h.below Tu.o) hL hx);have VC:Hid (X=true):=by show _=_;rw[HX.o,Z3 hx]
  clear hx HX hT h hL;obtain⟨p,sr,b,f⟩:=x;dsimp only[Z8]at CV Tu hz ⊢;go_enter func33,ntmps33;go_wp2_with (first|(with_reducible refine Zl hz underlying59 ?_)|(go_at_call 55;refine CV.o.mono ?_;rintro e w2 ⟨rfl,Zb⟩;have Yg:=Zh (Tr Tu Zb);have CW:=Zh (tX w2 at');clear Zb)|(go_at_call 64;refine CW.o.mono ?_;rintro e w' ⟨rfl,rfl⟩))
  go_ret;exact⟨by rw[VC.o];rfl,Yg.o⟩
end Go.Proofs.By
