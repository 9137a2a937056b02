/- Part of a proof. -/
import Derived.Test.YtpdjhlcbcomdkaaGreatDoorR28
set_option linter.unusedVariables false
set_option linter.unusedSimpArgs false
set_option maxRecDepth 100000
set_option maxHeartbeats 16000000
open Go Go.Q Go.Qr
namespace Go.Proofs.By
open Go.RowKit Go.Proofs.Heap Go.Proofs
open Go.Proofs.Rm (below_drewN W_ YL)
theorem UN:Elem Tryz.prog 122 4 1 1:=⟨Tryz.underlying122,⟨.bool false,by kernel_rfl,rfl⟩,by decide⟩
structure aD (w:World) (k:Nat) (ov av mv lv:Value) (L:List V7) (LS:List Zu):Prop where
 book:w.heap[k]?=some (.cells #[ov,av,mv,lv] 116 (0,0))
 ops:Xf w ov L
 XC:Row w 35 av L.length ((Xt L L.length).flatMap Vn)
 Ld:∃ M:List TP,Row w 97 mv M.length (M.flatMap Xo)∧(∀ y∈M,Vy w y.p y.cv y.ev y.pv)∧M.map (fun y=>(y.p,y.d))=Oy L L.length
 P4:Row w 59 lv LS.length (LS.flatMap ZX)
theorem aD.below {w w':World} {k:Nat} {ov av mv lv:Value} {L:List V7} {LS:List Zu} (h:aD w k ov av mv lv L LS) (hb:Below w w w'):aD w' k ov av mv lv L LS:=by
 obtain ⟨M,m1,m0,m2⟩:=h.Ld;exact ⟨(hb.block _ (ZW h.book)).trans h.book,h.ops.below hb,Row.below h.XC hb,⟨M,Row.below m1 hb,fun y hy=>(m0 y hy).below hb,m2⟩,Row.below h.P4 hb⟩
theorem VB.of {w w':World} {V k:Nat} {ov av mv lv:Value} {L:List V7} {LS:List Zu} {x:Zu} {wv cv qv:Value} (h:aD w k ov av mv lv L LS) (hb:Below w w w') (hv:w'.heap[V]?=some (.cells (Q6 (some ⟨k,0,none⟩) x.peer x.source x.MR x.fin wv cv qv) 164 (0,0))):VB w' V k ov av mv lv L x wv cv qv:=
 ⟨(h.below hb).book,(h.below hb).ops,(h.below hb).XC,(h.below hb).Ld,hv⟩
structure VO (w w':World) (V T k:Nat) (x:Zu) (s:VS) (w0 c0 q0 wv:Value) (ws:List Int) (cv:Value) (cs:List Int) (qv:Value) (qs:List Bool):Prop where
 Zg:Below w w w'
 view:w'.heap[V]?=some (.cells (Q6 (some ⟨k,0,none⟩) x.peer x.source x.MR x.fin w0 c0 q0) 164 (0,0))
 st:w'.heap[T]?=some (.cells (XL s).toArray 202 (0,0))
 want:w'.ownsRow w 3 1 wv ws.length (WA ws)
 cur:w'.ownsRow w 3 1 cv cs.length (WA cs)
 quiet:w'.ownsRow w 4 1 qv qs.length (U3 qs)
 ne:∀ i,wv.ownBlock=some i→cv.ownBlock≠some i
 ge:w.heap.size≤V∧w.heap.size≤T
theorem BR (w:World):Below w w w.drew:=(YJ _ _).drew
theorem row_one {w:World} {B:Nat} {e:TypeId} {v:Value} (h:w.heap[B]?=some (.cells #[v] e (0,0))):Row w e (.slice (some ⟨B,0,none⟩) 1 1) 1 [v]:=
 ⟨_,_,rfl,Zw _,by unfold maxLen;omega,(fun h=>by cases h),Wh ⟨B,0,_,_,rfl,h,fun j hj=>by
  have hj:j<1:=hj;have:j=0:=by omega
  subst this
  rfl⟩⟩
section
variable {w w1 w2:World} {V T k:Nat} {x:Zu} {s:VS} {w0 c0 q0 wv:Value} {ws:List Int} {cv:Value} {cs:List Int} {qv:Value} {qs:List Bool}
theorem VO.below (h:VO w w1 V T k x s w0 c0 q0 wv ws cv cs qv qs) (hb:Below w1 w1 w2):VO w w2 V T k x s w0 c0 q0 wv ws cv cs qv qs:=
 ⟨h.Zg.trans (hb.mono h.Zg.size),(hb.block _ (ZW h.view)).trans h.view,(hb.block _ (ZW h.st)).trans h.st,Yw h.want hb,Yw h.cur hb,Yw h.quiet hb,h.ne,h.ge⟩
theorem VO.facts (h:VO w w1 V T k x s w0 c0 q0 wv ws cv cs qv qs):w1.cell? ⟨V,5,none⟩=some w0∧w1.cell? ⟨V,6,none⟩=some c0∧w1.cell? ⟨V,7,none⟩=some q0∧w1.cell? ⟨T,0,none⟩=some (.int .i64 s.want)∧w1.cell? ⟨T,1,none⟩=some (.int .i64 s.cur)∧w1.cell? ⟨T,2,none⟩=some (.bool s.ZQ)∧w1.cell? ⟨T,3,none⟩=some (.bool s.ZE):=
 ⟨Zc h.view 5 rfl,Zc h.view 6 rfl,Zc h.view 7 rfl,Zc h.st 0 rfl,Zc h.st 1 rfl,Zc h.st 2 rfl,Zc h.st 3 rfl⟩
theorem Sm {w:World} {base:Nat} {e:TypeId} {size:Nat} {v:Value} {n:Nat} {xs:List Value} (h:w.ownsRow base e size v n xs) {i:Nat} (hi:v.ownBlock=some i):i<w.heap.size:=by
 obtain ⟨cu,hc⟩:=Wo h i hi;exact ZW hc
theorem VO.D9 (h:VO w w1 V T k x s w0 c0 q0 wv ws cv cs qv qs) (hg:w1.grownBy w2 wv.ownBlock) {aB:Value} {ws':List Int} (ho:w2.ownsRow w 3 1 aB ws'.length (WA ws')) (hw:∀ i,aB.ownBlock=some i→wv.ownBlock=some i∨i=w1.heap.size):VO w w2 V T k x s w0 c0 q0 aB ws' cv cs qv qs:=
 ⟨((Fr.Z7 PN h.Zg).grown hg h.Zg.size (YL h.want)).below,(hg.block _ (ZW h.view) (fun e=>Za h.want Zd _ _ _ e.symm h.view)).trans h.view,(hg.block _ (ZW h.st) (fun e=>Za h.want Zd _ _ _ e.symm h.st)).trans h.st,ho,
  XQ h.cur (fun i hi=>hg.block i (Sm h.cur hi) (fun e=>h.ne i e.symm hi)),Vh h.quiet h.want Zd hg,
  fun i hi hc=>by rcases hw i hi with h1|h1;exact h.ne i h1 hc;have:=Sm h.cur hc;omega,h.ge⟩
theorem VO.D8 (h:VO w w1 V T k x s w0 c0 q0 wv ws cv cs qv qs) (hg:w1.grownBy w2 cv.ownBlock) {cz:Value} {cs':List Int} (ho:w2.ownsRow w 3 1 cz cs'.length (WA cs')) (hw:∀ i,cz.ownBlock=some i→cv.ownBlock=some i∨i=w1.heap.size):VO w w2 V T k x s w0 c0 q0 wv ws cz cs' qv qs:=
 ⟨((Fr.Z7 PN h.Zg).grown hg h.Zg.size (YL h.cur)).below,(hg.block _ (ZW h.view) (fun e=>Za h.cur Zd _ _ _ e.symm h.view)).trans h.view,(hg.block _ (ZW h.st) (fun e=>Za h.cur Zd _ _ _ e.symm h.st)).trans h.st,
  XQ h.want (fun i hi=>hg.block i (Sm h.want hi) (fun e=>h.ne i hi e.symm)),ho,Vh h.quiet h.cur Zd hg,
  fun i hi hc=>by rcases hw i hc with h1|h1;exact h.ne i hi h1;have:=Sm h.want hi;omega,h.ge⟩
theorem VO.nR (h:VO w w1 V T k x s w0 c0 q0 wv ws cv cs qv qs) (hg:w1.grownBy w2 qv.ownBlock) {qv':Value} {qs':List Bool} (ho:w2.ownsRow w 4 1 qv' qs'.length (U3 qs')):VO w w2 V T k x s w0 c0 q0 wv ws cv cs qv' qs':=
 ⟨((Fr.Z7 PN h.Zg).grown hg h.Zg.size (YL h.quiet)).below,(hg.block _ (ZW h.view) (fun e=>Za h.quiet Zd _ _ _ e.symm h.view)).trans h.view,(hg.block _ (ZW h.st) (fun e=>Za h.quiet Zd _ _ _ e.symm h.st)).trans h.st,
  Vh h.want h.quiet Zd hg,Vh h.cur h.quiet Zd hg,ho,h.ne,h.ge⟩
theorem VO.vt (h:VO w w1 V T k x s w0 c0 q0 wv ws cv cs qv qs):V≠T:=fun e=>by
 have h1:=h.view;rw [e,h.st] at h1;injection h1 with h1
 injection h1 with _ h1
 exact absurd h1 Zd
theorem VO.rest (h:VO w w1 V T k x s w0 c0 q0 wv ws cv cs qv qs) {b:Nat} (hb:b=V∨b=T) (he:∀ j,j≠b→w2.heap[j]?=w1.heap[j]?):w2.ownsRow w 3 1 wv ws.length (WA ws)∧w2.ownsRow w 3 1 cv cs.length (WA cs)∧w2.ownsRow w 4 1 qv qs.length (U3 qs):=by
 have hn:∀ {v:Value} {e:TypeId} {n:Nat} {xs:List Value},w1.ownsRow w e 1 v n xs→e=3∨e=4→∀ i,v.ownBlock=some i→i≠b:=fun ho ht i hi hib=>by
  subst hib;rcases hb with rfl|rfl
  ·exact Za ho (by rcases ht with rfl|rfl <;> decide) _ _ _ hi h.view
  ·exact Za ho (by rcases ht with rfl|rfl <;> decide) _ _ _ hi h.st
 exact ⟨XQ h.want (fun i hi=>he i (hn h.want (Ws rfl) i hi)),XQ h.cur (fun i hi=>he i (hn h.cur (Ws rfl) i hi)),XQ h.quiet (fun i hi=>he i (hn h.quiet (Wh rfl) i hi))⟩
theorem VO.eD (h:VO w w1 V T k x s w0 c0 q0 wv ws cv cs qv qs) (o:Nat) (u w0' c0' q0':Value) (hs:[.pointer (some ⟨k,0,none⟩),.int .i64 x.peer,.int .i64 x.source,.int .i64 x.MR,.int .i64 x.fin,w0,c0,q0].set o u=(Q6 (some ⟨k,0,none⟩) x.peer x.source x.MR x.fin w0' c0' q0')):VO w (w1.setCell ⟨V,o,none⟩ u) V T k x s w0' c0' q0' wv ws cv cs qv qs:=by
 have h2:=VH h.view o u;rw [List.setIfInBounds_toArray,hs] at h2;obtain ⟨r1,r2,r3⟩:=h.rest (w2:=w1.setCell ⟨V,o,none⟩ u) (Ws rfl) (fun j hj=>MH w1 ⟨V,o,none⟩ u j hj);exact ⟨((Fr.Z7 PN h.Zg).setCell (p:=⟨V,o,none⟩) (Ws h.ge.1) _).below,h2,(MH w1 ⟨V,o,none⟩ u T (fun e=>h.vt e.symm)).trans h.st,r1,r2,r3,h.ne,h.ge⟩
theorem VO.setT (h:VO w w1 V T k x s w0 c0 q0 wv ws cv cs qv qs) (s':VS):VO w (w1.setRow T (XL s').toArray) V T k x s' w0 c0 q0 wv ws cv cs qv qs:=by
 obtain ⟨r1,r2,r3⟩:=h.rest (w2:=w1.setRow T (XL s').toArray) (Wh rfl) (fun j hj=>setRow_other w1 T j _ hj);exact ⟨Z3 h.Zg h.ge.2 _,by rw [setRow_other w1 T V _ h.vt];exact h.view,setRow_heap _ _ _ _ _ _ h.st,r1,r2,r3,h.ne,h.ge⟩
theorem VO.rows (h:VO w w1 V T k x s w0 c0 q0 wv ws cv cs qv qs) {SS:List VS} (h1:ws=SS.map VS.want) (h2:cs=SS.map VS.cur) (h3:qs=SS.map VS.quiet):OL w1 wv cv qv SS:=by
 subst h1;subst h2;subst h3;have a:=Row.Z6 h.want;have b:=Row.Z6 h.cur;have c:=Row.Z6 h.quiet;rw [TB] at a b c;exact ⟨a,b,c⟩
theorem GH (l:List Int) (z:Int):WA (l++[z])=WA l++[.int .i64 z]:=by simp [WA]
theorem zw (l:List Bool) (z:Bool):U3 (l++[z])=U3 l++[.bool z]:=by simp [U3]
end
theorem rG {k:Nat} {ov av mv lv:Value} {L:List V7} {LS:List Zu} {w:World} (h:aD w k ov av mv lv L LS) (x:Zu) (hx:x ∉ LS) :
  Calls Tryz.prog 87 (Qi (some ⟨k,0,none⟩) (ZX x).toArray) w fun e w'=>e = .returned (.pointer none)∧Below w w w':=by
 have cN:decide (x∈LS)=false:=WI hx;have DA:=Zh h;have oz:∃ a n c,lv = .slice a n c:=by obtain ⟨a,c,e⟩:=Row.form h.P4;exact ⟨a,_,c,e⟩
 obtain ⟨la,ln,lc,rfl⟩:=oz;have eI:=Zh (fun (w':World) (hb:Below w w w')=>Mt _ LS x w' (Row.below h.P4 hb));rw [cN] at eI;clear cN hx h;obtain ⟨p,sr,b,f⟩:=x;dsimp only [ZX] at eI ⊢;have Tx:Hid ((w.alloc (.cells (Qc p sr b f) 59)).heap[w.heap.size]?=some (.cells (Qc p sr b f) 59 (0,0))):=Z8 w _;have Vk:Hid (Below w w (w.alloc (.cells (Qc p sr b f) 59))):=Z' w _;go_enter Tryz.func87,Tryz.ntmps87;go_upto_region 1 with fail
 generalize w.alloc (.cells (Qc p sr b f) 59)=w1 at *
 have Zz:Hid (∀ w',Below w1 w1 w'→w'.cell? ⟨k,3,none⟩=some (.slice la ln lc)∧w'.rangeAt w.heap.size 0 (Qc p sr b f)∧Below w1 w1 w'):=fun w' hb=>
  ⟨by rw [cell_of (DA.o.below (Vk.o.trans (hb.mono Vk.o.size))).book 3];rfl,fun m v hm=>by rw [QD,cell_of ((hb.block _ (ZW Tx.o)).trans Tx.o) m];simpa using hm,hb⟩
 have CC:=Zh (eI.o w1.drew (Vk.o.trans ((YJ w1.heap.size w1).drew.mono Vk.o.size)));refine SX ?_;refine Z_.Zy (d:=5) (S:=(fun w'=>w'.cell? ⟨k,3,none⟩=some (.slice la ln lc)∧w'.rangeAt w.heap.size 0 (Qc p sr b f)∧Below w1 w1 w')) ZB ?_ (fun Ye=>?_)
 ·(try dsimp only)
  exact Zz.o _ (YJ _ _).drew
 refine YP 0 (h:=YP 1 (h:=YP 2 (h:=YK 3 (h:=?_))));refine Z_.tk 4 ?_ rfl ?_ <| ?_
 rotate_left
 ·intro wS Uq;(try dsimp only at Uq)
  refine (XH 59 (.tmp 3) ?_ w.heap.size 0 ?_ (Qc p sr b f) _ Uq.2.1 Tryz.underlying59 rfl ZB).trans ?_;all_goals rfl
 try simp only [Z_.pt]
 refine YR 5 (h:=fun K hK=>?_);go_simp;refine CC.o.mono ?_;rintro e w2 ⟨rfl,Y7⟩;have X8:=Zh ((YJ w1.heap.size w1).drew.trans Y7);clear Y7;go_wp2_with fail
 refine Z_.Yk hK _ _ ZB ?_;clear hK K;try simp only [Z_.pt]
 refine YP 6 (h:=?_);refine Z_.YC ZB ?_ _;refine RA ?_;go_wp2_with fail
 go_ret;exact ⟨rfl,Vk.o.trans (X8.o.mono Vk.o.size)⟩
theorem rH {k:Nat} {ov av mv lv:Value} {L:List V7} {LS:List Zu} {w:World} (h:aD w k ov av mv lv L LS) (hL:L.length≤256) (x:Zu) (hx:x∈LS) (h0:0≤x.MR) (h1:x.MR<L.length) :
  Calls Tryz.prog 87 (Qi (some ⟨k,0,none⟩) (ZX x).toArray) w fun e w'=>(∃ V wv cv qv,e = .returned (.pointer (some ⟨V,0,none⟩))∧VB w' V k ov av mv lv L x wv cv qv∧OL w' wv cv qv (WQ L x (L.length+1)))∧Below w w w':=by
 have cN:decide (x∈LS)=true:=Wi hx;have DA:=Zh h;have oz:∃ a n c,lv = .slice a n c:=by obtain ⟨a,c,e⟩:=Row.form h.P4;exact ⟨a,_,c,e⟩
 obtain ⟨la,ln,lc,rfl⟩:=oz;have eI:=Zh (fun (w':World) (hb:Below w w w')=>Mt _ LS x w' (Row.below h.P4 hb));rw [cN] at eI;clear cN hx h;obtain ⟨nb,hnb⟩:∃ nb:Nat,x.MR=(nb:Int):=⟨x.MR.toNat,Zo⟩;obtain ⟨p,sr,b,f⟩:=x;have hnb:b=(nb:Int):=hnb;have h1:b<L.length:=h1;subst hnb;clear h0;dsimp only [ZX] at eI ⊢;have hnL:nb<L.length:=by omega
 clear h1;have Tx:Hid ((w.alloc (.cells (Qc p sr (nb:Int) f) 59)).heap[w.heap.size]?=some (.cells (Qc p sr (nb:Int) f) 59 (0,0))):=Z8 w _;have Vk:Hid (Below w w (w.alloc (.cells (Qc p sr (nb:Int) f) 59))):=Z' w _;go_enter Tryz.func87,Tryz.ntmps87;go_upto_region 1 with fail
 generalize w.alloc (.cells (Qc p sr (nb:Int) f) 59)=w1 at *
 have Zz:Hid (∀ w',Below w1 w1 w'→w'.cell? ⟨k,3,none⟩=some (.slice la ln lc)∧w'.rangeAt w.heap.size 0 (Qc p sr (nb:Int) f)∧Below w1 w1 w'):=fun w' hb=>
  ⟨by rw [cell_of (DA.o.below (Vk.o.trans (hb.mono Vk.o.size))).book 3];rfl,fun m v hm=>by rw [QD,cell_of ((hb.block _ (ZW Tx.o)).trans Tx.o) m];simpa using hm,hb⟩
 have CC:=Zh (eI.o w1.drew (Vk.o.trans ((YJ w1.heap.size w1).drew.mono Vk.o.size)));refine SX ?_;refine Z_.Zy (d:=5) (S:=(fun w'=>w'.cell? ⟨k,3,none⟩=some (.slice la ln lc)∧w'.rangeAt w.heap.size 0 (Qc p sr (nb:Int) f)∧Below w1 w1 w')) ZB ?_ (fun Ye=>?_)
 ·(try dsimp only)
  exact Zz.o _ (YJ _ _).drew
 refine YP 0 (h:=YP 1 (h:=YP 2 (h:=YK 3 (h:=?_))));refine Z_.tk 4 ?_ rfl ?_ <| ?_
 rotate_left
 ·intro wS Uq;(try dsimp only at Uq)
  refine (XH 59 (.tmp 3) ?_ w.heap.size 0 ?_ (Qc p sr (nb:Int) f) _ Uq.2.1 Tryz.underlying59 rfl ZB).trans ?_;all_goals rfl
 try simp only [Z_.pt]
 refine YR 5 (h:=fun K hK=>?_);go_simp;refine CC.o.mono ?_;rintro e w2 ⟨rfl,Y7⟩;have X8:=Zh ((YJ w1.heap.size w1).drew.trans Y7);clear Y7;go_wp2_with fail
 refine Z_.Yk hK _ _ ZB ?_;clear hK K;try simp only [Z_.pt]
 refine YP 6 (h:=?_);refine Z_.YC ZB ?_ _;refine RA ?_;have Wc:=Zh (Vk.o.trans (X8.o.mono Vk.o.size));have lh:Hid (w2.heap[w.heap.size]?=some (.cells (Qc p sr (nb:Int) f) 59 (0,0))):=(X8.o.block _ (ZW Tx.o)).trans Tx.o;have iw:=Zh (DA.o.below Wc.o);clear Vk X8 Tx Zz CC eI Ye;obtain ⟨g,o,c,nm,a1,n1,c1,a2,n2,c2,hov,GD⟩:=pJ iw.o.ops hnL;have a_:=Zh hov;have HLY:Hid (w2.cell? ⟨g,o+nb*7+3,none⟩=some (.int .i64 (opAt L nb).ZH)):=Pn GD 3 rfl;have pd:=lh.o;clear hov GD;go_upto_region 4 with (with_reducible refine Zj 59 (.tmp 3) rfl ?_;refine Zf rfl 59 (.tmp 3) rfl w.heap.size rfl 59 (Qc p sr (nb:Int) f) (0,0) _ pd Tryz.underlying59 rfl ZB ?_)
 clear pd;have HV4:Hid ((w2.alloc (.cells (Jj (some ⟨k,0,none⟩) p sr (nb:Int) f none 0 0 none 0 0 none 0 0) 164)).heap[w2.heap.size]?=some (.cells (Jj (some ⟨k,0,none⟩) p sr (nb:Int) f none 0 0 none 0 0 none 0 0) 164 (0,0))):=Z8 w2 _;have iu:Hid (Below w2 w2 (w2.alloc (.cells (Jj (some ⟨k,0,none⟩) p sr (nb:Int) f none 0 0 none 0 0 none 0 0) 164))):=Z' w2 _;have HGV:Hid (w.heap.size≤w2.heap.size):=Wc.o.size;generalize w2.alloc (.cells (Jj (some ⟨k,0,none⟩) p sr (nb:Int) f none 0 0 none 0 0 none 0 0) 164)=w4 at *
 have Ux:=Zh (Wc.o.trans (iu.o.mono Wc.o.size));have hnI:(nb:Int)<(L.length:Int):=OP.2 hnL
 have Rz:Hid (∀ w',Below w4 w4 w'→w'.cell? ⟨k,0,none⟩=some (.slice (some ⟨g,o,none⟩) L.length c)∧w'.cell? ⟨w,2,none⟩=some (.int .i64 (nb:Int))∧w'.cell? ⟨g,o+nb*7+3,none⟩=some (.int .i64 (opAt L nb).ZH)):=fun w' hb=>
  have Y7:=iu.o.trans (hb.mono iu.o.size)
  ⟨by rw [←a_.o,cell_of (iw.o.below Y7).book 0];rfl,by rw [cell_of ((Y7.block _ (ZW lh.o)).trans lh.o) 2];rfl,Yp HLY.o Y7⟩
 refine SX ?_;refine Z_.Zy (d:=11) (S:=(fun w'=>w'.cell? ⟨k,0,none⟩=some (.slice (some ⟨g,o,none⟩) L.length c)∧w'.cell? ⟨w,2,none⟩=some (.int .i64 (nb:Int))∧w'.cell? ⟨g,o+nb*7+3,none⟩=some (.int .i64 (opAt L nb).ZH))) ZB ?_ (fun Ye=>?_)
 ·(try dsimp only)
  exact Rz.o _ (YJ _ _).drew
 refine YP 0 (h:=YP 1 (h:=YP 2 (h:=YP 4 (h:=YK 3 (h:=YK 5 (h:=YP 6 (h:=YP 7 (h:=YK 8 (h:=YP 9 (h:=?_))))))))));refine YR 10 (h:=fun K hK=>?_);go_simp;refine Z_.Zb hK _ _ ?_ (fun XU=>?_)
 ·(try dsimp only)
  exact Rz.o _ (by first|exact (YJ _ _).drew|exact ZF (YJ _ _).drew (Zw _) _)
 clear hK K;try simp only [Z_.pt]
 refine YR 11 (h:=fun K hK=>?_);refine Sq Zr 202 (.tmp 6) (.tmp 28) Zr Zr w4.heap.size (XL (Yi L (⟨p,sr,(nb:Int),f⟩:Zu) 0)).toArray Zr Zr 202 _ (Z8 w4.drew _) ZB Zr (Hh _) ?_;refine Z_.Yk hK _ _ ZB ?_;clear hK K;try simp only [Z_.pt]
 refine Z_.YC ZB ?_ _;refine RA ?_;go_upto_region 5 with fail
 have IK:Hid (VO w ((w4.alloc (.cells (Qf 0 0 false false) 202)).drew.setRow w4.heap.size (XL (Yi L (⟨p,sr,(nb:Int),f⟩:Zu) 0)).toArray) w2.heap.size w4.heap.size k (⟨p,sr,(nb:Int),f⟩:Zu) (Yi L (⟨p,sr,(nb:Int),f⟩:Zu) 0) (.slice none 0 0) (.slice none 0 0) (.slice none 0 0) (.slice none 0 0) [] (.slice none 0 0) [] (.slice none 0 0) []):=
  have hv:w4.heap.size≠w2.heap.size:=fun e=>absurd (ZW HV4.o) Zo
  have ha:=ZF (BR w4) (Zw _) (.cells (Qf 0 0 false false) 202)
  ⟨Z3 (Ux.o.trans (ha.mono Ux.o.size)) Ux.o.size _,by rw [setRow_other _ _ _ _ (fun e=>hv e.symm)];exact (ha.block _ (ZW HV4.o)).trans HV4.o,setRow_heap _ _ _ _ _ _ (Z8 w4.drew _),TY _ _ _ _,TY _ _ _ _,TY _ _ _ _,(fun i h=>by cases h),HGV.o,Ux.o.size⟩
 clear HV4 iu Ux Rz Wc lh HGV HLY;generalize ((w4.alloc (.cells (Qf 0 0 false false) 202)).drew.setRow w4.heap.size (XL (Yi L (⟨p,sr,(nb:Int),f⟩:Zu) 0)).toArray)=w6 at *
 generalize w2.heap.size=V at *
 generalize w4.heap.size=T at *
 have b0:w6.cell? ⟨k,0,none⟩=some (.slice (some ⟨g,o,none⟩) L.length c):=by rw [←a_.o,cell_of (DA.o.below IK.o.Zg).book 0];rfl
 go_wp2_with fail
 clear b0;go_loopw [35] (fun s35 w'=>∃ (j:Nat) (s:VS) (wv cv qv:Value),j≤L.length+1∧s35 = .int .i64 (j:Int)∧s=Yi L (⟨p,sr,(nb:Int),f⟩:Zu) (min j L.length)∧VO w w' V T k (⟨p,sr,(nb:Int),f⟩:Zu) s wv cv qv wv ((WQ L (⟨p,sr,(nb:Int),f⟩:Zu) j).map VS.want) cv ((WQ L (⟨p,sr,(nb:Int),f⟩:Zu) j).map VS.cur) qv ((WQ L (⟨p,sr,(nb:Int),f⟩:Zu) j).map VS.quiet)) (fun s35 _=>L.length+1-(intOf s35).toNat)
 case atStart=>exact ⟨0,_,_,_,_,Zo,rfl,by rw [Nat.min_eq_left (Tk _)],IK.o⟩
 case round=>
  obtain ⟨j,s,wv,cv,qv,hj,rfl,hs,ho⟩:=hrel;have HO:=Zh ho;have HS:=Zh hs;clear ho hs IK;by_cases cY:j<L.length+1
  ·have dj:decide ((j:Int)<(L.length:Int)+1)=true:=Wi Zo;have yt:Hid (s=Yi L (⟨p,sr,(nb:Int),f⟩:Zu) j):=by show _=_;rw [HS.o,Nat.min_eq_left Zo]
   obtain ⟨ws,hws⟩:∃ ws,ws=(WQ L (⟨p,sr,(nb:Int),f⟩:Zu) j).map VS.want:=⟨_,rfl⟩;obtain ⟨cs,Tn⟩:∃ cs,cs=(WQ L (⟨p,sr,(nb:Int),f⟩:Zu) j).map VS.cur:=⟨_,rfl⟩;obtain ⟨qs,hqs⟩:∃ qs,qs=(WQ L (⟨p,sr,(nb:Int),f⟩:Zu) j).map VS.quiet:=⟨_,rfl⟩;have lw:ws.length≤300:=by rw [hws,TB,Ny];omega
   have lc':cs.length≤300:=by rw [Tn,TB,Ny];omega
   have lq:qs.length≤300:=by rw [hqs,TB,Ny];omega
   rw [←hws,←Tn,←hqs] at HO;have HWS:=Zh hws;have kV:=Zh Tn;have DF:=Zh hqs;clear hws Tn hqs;obtain ⟨wa,wc,rfl⟩:=Row.form (Row.Z6 HO.o.want);obtain ⟨ca,cc,rfl⟩:=Row.form (Row.Z6 HO.o.cur);obtain ⟨qa,qc,rfl⟩:=Row.form (Row.Z6 HO.o.quiet);obtain ⟨sw,sc,sp,sm⟩:=s;go_upto_region 8 with fail
   have HO:=Zh (HO.o.below (YJ _ _).drew);go_cut [] (fun wx=>∃ aB cz qv',VO w wx V T k (⟨p,sr,(nb:Int),f⟩:Zu) ⟨sw,sc,sp,sm⟩ aB cz qv' aB (ws++[sw]) cz (cs++[sc]) qv' (qs++[sp || sm]))
   case first=>
    cases sp with
    | false=>
     refine SX ?_;refine Z_.Zy (d:=33) (S:=(fun w'=>w'.cell? ⟨V,5,none⟩=some (.slice wa ws.length wc)∧w'.cell? ⟨V,6,none⟩=some (.slice ca cs.length cc)∧w'.cell? ⟨V,7,none⟩=some (.slice qa qs.length qc)∧w'.cell? ⟨T,0,none⟩=some (.int .i64 sw)∧w'.cell? ⟨T,1,none⟩=some (.int .i64 sc)∧w'.cell? ⟨T,2,none⟩=some (.bool false)∧w'.cell? ⟨T,3,none⟩=some (.bool sm))) ZB ?_ (fun Ye=>?_)
     ·(try dsimp only)
      exact HO.o.facts
     refine YP 0 (h:=YP 1 (h:=YP 2 (h:=YP 3 (h:=YP 4 (h:=YP 5 (h:=YP 7 (h:=YP 11 (h:=YP 12 (h:=YP 13 (h:=YP 15 (h:=YP 19 (h:=YP 20 (h:=YP 21 (h:=YP 23 (h:=YK 6 (h:=YK 8 (h:=YK 14 (h:=YK 16 (h:=YK 22 (h:=YK 24 (h:=?_)))))))))))))))))))));refine Z_.TK (rs:=[9,17]) ZB Zi ?_;refine Z_.VP (i:=9) rfl (fun K hK=>?_) ?_
     ·skip
      refine Ym Zr W_ (.tmp 46) Zr (.int .i64 sw) Zr Zr ?_;have vC:Hid ((wr.drew.alloc (.cells #[.int .i64 sw] 3)).heap[wr.drew.heap.size]?=some (.cells #[.int .i64 sw] 3 (0,0))):=Z8 wr.drew _;have U6:=Z' wr.drew (.cells #[.int .i64 sw] 3);have HO:=Zh (HO.o.below U6);clear U6;refine Z_.Zb hK _ _ ?_ (fun XU=>?_)
      ·(try dsimp only)
       exact HO.o.facts
      clear hK K;try simp only [Z_.pt]
      refine Z_.TK (rs:=[10,17]) ZB Zi ?_;refine Z_.VP (i:=10) rfl (fun K hK=>?_) ?_
      ·skip
       refine Xe Zr (.tmp 44) (.tmp 47) 72 Zr w.heap.size W_ (.slice wa ws.length wc) ws.length (WA ws) Zr HO.o.want ((wr.drew).heap.size) 1 1 [.int .i64 sw] Zr (row_one vC.o) rfl NQ Zd Zo Zo HO.o.Zg.size ?_;intro v10 UH qX LM JW;have Nc:Hid (UH.ownsRow w 3 1 v10 (ws++[sw]).length (WA (ws++[sw]))):=rN;have HO:=Zh (HO.o.D9 LM.o Nc.o JW.o);obtain ⟨xa,xc,hx⟩:∃ a c,v10 = .slice a (ws.length+1) c:=by obtain ⟨a,c,h⟩:=Row.form (Row.Z6 Nc.o);exact ⟨a,c,by rw [h,UE];rfl⟩
       subst hx;refine Z_.Zb hK _ _ ?_ (fun VG=>?_)
       ·(try dsimp only)
        exact HO.o.facts
       clear hK K;try simp only [Z_.pt]
       refine YR 17 (h:=fun K hK=>?_);refine Ym Zr W_ (.tmp 54) Zr (.int .i64 sc) Zr Zr ?_;have S7:Hid ((UH.alloc (.cells #[.int .i64 sc] 3)).heap[UH.heap.size]?=some (.cells #[.int .i64 sc] 3 (0,0))):=Z8 UH _;have U6:=Z' UH (.cells #[.int .i64 sc] 3);have HO:=Zh (HO.o.below U6);clear U6;refine Z_.Zb hK _ _ ?_ (fun Nj=>?_)
       ·(try dsimp only)
        exact HO.o.facts
       clear hK K;try simp only [Z_.pt]
       refine YR 18 (h:=fun K hK=>?_);refine Xe Zr (.tmp 52) (.tmp 55) 72 Zr w.heap.size W_ (.slice ca cs.length cc) cs.length (WA cs) Zr HO.o.cur ((UH).heap.size) 1 1 [.int .i64 sc] Zr (row_one S7.o) rfl NQ Zd Zo Zo HO.o.Zg.size ?_;intro v18 Pv qY FU F5;have Nf:Hid (Pv.ownsRow w 3 1 v18 (cs++[sc]).length (WA (cs++[sc]))):=rM;have HO:=Zh (HO.o.D8 FU.o Nf.o F5.o);obtain ⟨ya,yc,hx⟩:∃ a c,v18 = .slice a (cs.length+1) c:=by obtain ⟨a,c,h⟩:=Row.form (Row.Z6 Nf.o);exact ⟨a,c,by rw [h,UE];rfl⟩
       subst hx;refine Z_.Zb hK _ _ ?_ (fun Gu=>?_)
       ·(try dsimp only)
        exact HO.o.facts
       clear hK K;try simp only [Z_.pt]
       refine YP 25 (h:=YP 26 (h:=YK 27 (h:=YP 28 (h:=?_))));refine YR 29 (h:=fun K hK=>?_);refine Ym Zr UN (.tmp 66) Zr (.bool sm) Zr Zr ?_;have F6:Hid ((Pv.alloc (.cells #[.bool sm] 4)).heap[Pv.heap.size]?=some (.cells #[.bool sm] 4 (0,0))):=Z8 Pv _;have U6:=Z' Pv (.cells #[.bool sm] 4);have HO:=Zh (HO.o.below U6);clear U6;refine Z_.Zb hK _ _ ?_ (fun Gv=>?_)
       ·(try dsimp only)
        exact HO.o.facts
       clear hK K;try simp only [Z_.pt]
       refine YR 30 (h:=fun K hK=>?_);refine Xe Zr (.tmp 60) (.tmp 67) 122 Zr w.heap.size UN (.slice qa qs.length qc) qs.length (U3 qs) Zr HO.o.quiet ((Pv).heap.size) 1 1 [.bool sm] Zr (row_one F6.o) rfl NQ Zd Zo Zo HO.o.Zg.size ?_;intro v30 qh qZ yO mG;have FQ:Hid (qh.ownsRow w 4 1 v30 (qs++[sm]).length (U3 (qs++[sm]))):=rL;exact Yx78
      refine Z_.VP (i:=17) rfl (fun K hK=>?_) Z_.QP;refine Ym Zr W_ (.tmp 54) Zr (.int .i64 sc) Zr Zr ?_;have S7:Hid (((wr.drew.alloc (.cells #[.int .i64 sw] 3)).alloc (.cells #[.int .i64 sc] 3)).heap[(wr.drew.alloc (.cells #[.int .i64 sw] 3)).heap.size]?=some (.cells #[.int .i64 sc] 3 (0,0))):=Z8 (wr.drew.alloc (.cells #[.int .i64 sw] 3)) _;have vA:Hid (∀ i,(Value.slice wa ws.length wc).ownBlock=some i→i<(wr.drew.alloc (.cells #[.int .i64 sw] 3)).heap.size):=fun i hi=>Sm HO.o.want hi
      have U6:=Z' (wr.drew.alloc (.cells #[.int .i64 sw] 3)) (.cells #[.int .i64 sc] 3);have vC:=Zh ((U6.block _ (ZW vC.o)).trans vC.o);have HO:=Zh (HO.o.below U6);clear U6;refine Z_.Zb hK _ _ ?_ (fun Cf=>?_)
      ·(try dsimp only)
       exact HO.o.facts
      clear hK K;try simp only [Z_.pt]
      refine YR 10 (h:=fun K hK=>?_);refine Xe Zr (.tmp 44) (.tmp 47) 72 Zr w.heap.size W_ (.slice wa ws.length wc) ws.length (WA ws) Zr HO.o.want ((wr.drew).heap.size) 1 1 [.int .i64 sw] Zr (row_one vC.o) rfl NQ Zd Zo Zo HO.o.Zg.size ?_;intro v10 UH qX LM JW;have Nc:Hid (UH.ownsRow w 3 1 v10 (ws++[sw]).length (WA (ws++[sw]))):=rN;have S7:=Zh ((LM.o.block _ (ZW S7.o) (fun e=>absurd (vA.o _ e.symm) (Nat.lt_irrefl _))).trans S7.o);have HO:=Zh (HO.o.D9 LM.o Nc.o JW.o);obtain ⟨xa,xc,hx⟩:∃ a c,v10 = .slice a (ws.length+1) c:=by obtain ⟨a,c,h⟩:=Row.form (Row.Z6 Nc.o);exact ⟨a,c,by rw [h,UE];rfl⟩
      subst hx;refine Z_.Zb hK _ _ ?_ (fun Cg=>?_)
      ·(try dsimp only)
       exact HO.o.facts
      clear hK K;try simp only [Z_.pt]
      refine YR 18 (h:=fun K hK=>?_);refine Xe Zr (.tmp 52) (.tmp 55) 72 Zr w.heap.size W_ (.slice ca cs.length cc) cs.length (WA cs) Zr HO.o.cur (((wr.drew.alloc (.cells #[.int .i64 sw] 3))).heap.size) 1 1 [.int .i64 sc] Zr (row_one S7.o) rfl NQ Zd Zo Zo HO.o.Zg.size ?_;intro v18 Pv qY FU F5;have Nf:Hid (Pv.ownsRow w 3 1 v18 (cs++[sc]).length (WA (cs++[sc]))):=rM;have HO:=Zh (HO.o.D8 FU.o Nf.o F5.o);obtain ⟨ya,yc,hx⟩:∃ a c,v18 = .slice a (cs.length+1) c:=by obtain ⟨a,c,h⟩:=Row.form (Row.Z6 Nf.o);exact ⟨a,c,by rw [h,UE];rfl⟩
      subst hx;refine Z_.Zb hK _ _ ?_ (fun Ch=>?_)
      ·(try dsimp only)
       exact HO.o.facts
      clear hK K;try simp only [Z_.pt]
      refine YP 25 (h:=YP 26 (h:=YK 27 (h:=YP 28 (h:=?_))));refine YR 29 (h:=fun K hK=>?_);refine Ym Zr UN (.tmp 66) Zr (.bool sm) Zr Zr ?_;have F6:Hid ((Pv.alloc (.cells #[.bool sm] 4)).heap[Pv.heap.size]?=some (.cells #[.bool sm] 4 (0,0))):=Z8 Pv _;have U6:=Z' Pv (.cells #[.bool sm] 4);have HO:=Zh (HO.o.below U6);clear U6;refine Z_.Zb hK _ _ ?_ (fun Ci=>?_)
      ·(try dsimp only)
       exact HO.o.facts
      clear hK K;try simp only [Z_.pt]
      refine YR 30 (h:=fun K hK=>?_);refine Xe Zr (.tmp 60) (.tmp 67) 122 Zr w.heap.size UN (.slice qa qs.length qc) qs.length (U3 qs) Zr HO.o.quiet ((Pv).heap.size) 1 1 [.bool sm] Zr (row_one F6.o) rfl NQ Zd Zo Zo HO.o.Zg.size ?_;intro v30 qh qZ yO mG;have FQ:Hid (qh.ownsRow w 4 1 v30 (qs++[sm]).length (U3 (qs++[sm]))):=rL;exact Yx77
     refine Z_.VP (i:=17) rfl (fun K hK=>?_) Z_.QP;refine Ym Zr W_ (.tmp 54) Zr (.int .i64 sc) Zr Zr ?_;have S7:Hid ((wr.drew.alloc (.cells #[.int .i64 sc] 3)).heap[wr.drew.heap.size]?=some (.cells #[.int .i64 sc] 3 (0,0))):=Z8 wr.drew _;have vA:Hid (∀ i,(Value.slice wa ws.length wc).ownBlock=some i→i<wr.drew.heap.size):=fun i hi=>Sm HO.o.want hi
     have U6:=Z' wr.drew (.cells #[.int .i64 sc] 3);have HO:=Zh (HO.o.below U6);clear U6;refine Z_.Zb hK _ _ ?_ (fun jR=>?_)
     ·(try dsimp only)
      exact HO.o.facts
     clear hK K;try simp only [Z_.pt]
     refine YR 9 (h:=fun K hK=>?_);refine Ym Zr W_ (.tmp 46) Zr (.int .i64 sw) Zr Zr ?_;have vC:Hid (((wr.drew.alloc (.cells #[.int .i64 sc] 3)).alloc (.cells #[.int .i64 sw] 3)).heap[(wr.drew.alloc (.cells #[.int .i64 sc] 3)).heap.size]?=some (.cells #[.int .i64 sw] 3 (0,0))):=Z8 (wr.drew.alloc (.cells #[.int .i64 sc] 3)) _;have U6:=Z' (wr.drew.alloc (.cells #[.int .i64 sc] 3)) (.cells #[.int .i64 sw] 3);have S7:=Zh ((U6.block _ (ZW S7.o)).trans S7.o);have HO:=Zh (HO.o.below U6);clear U6;refine Z_.Zb hK _ _ ?_ (fun jS=>?_)
     ·(try dsimp only)
      exact HO.o.facts
     clear hK K;try simp only [Z_.pt]
     refine YR 10 (h:=fun K hK=>?_);refine Xe Zr (.tmp 44) (.tmp 47) 72 Zr w.heap.size W_ (.slice wa ws.length wc) ws.length (WA ws) Zr HO.o.want (((wr.drew.alloc (.cells #[.int .i64 sc] 3))).heap.size) 1 1 [.int .i64 sw] Zr (row_one vC.o) rfl NQ Zd Zo Zo HO.o.Zg.size ?_;intro v10 UH qX LM JW;have Nc:Hid (UH.ownsRow w 3 1 v10 (ws++[sw]).length (WA (ws++[sw]))):=rN;have S7:=Zh ((LM.o.block _ (ZW S7.o) (fun e=>absurd (vA.o _ e.symm) (Nat.lt_irrefl _))).trans S7.o);have HO:=Zh (HO.o.D9 LM.o Nc.o JW.o);obtain ⟨xa,xc,hx⟩:∃ a c,v10 = .slice a (ws.length+1) c:=by obtain ⟨a,c,h⟩:=Row.form (Row.Z6 Nc.o);exact ⟨a,c,by rw [h,UE];rfl⟩
     subst hx;refine Z_.Zb hK _ _ ?_ (fun jT=>?_)
     ·(try dsimp only)
      exact HO.o.facts
     clear hK K;try simp only [Z_.pt]
     refine YR 18 (h:=fun K hK=>?_);refine Xe Zr (.tmp 52) (.tmp 55) 72 Zr w.heap.size W_ (.slice ca cs.length cc) cs.length (WA cs) Zr HO.o.cur ((wr.drew).heap.size) 1 1 [.int .i64 sc] Zr (row_one S7.o) rfl NQ Zd Zo Zo HO.o.Zg.size ?_;intro v18 Pv qY FU F5;have Nf:Hid (Pv.ownsRow w 3 1 v18 (cs++[sc]).length (WA (cs++[sc]))):=rM;have HO:=Zh (HO.o.D8 FU.o Nf.o F5.o);obtain ⟨ya,yc,hx⟩:∃ a c,v18 = .slice a (cs.length+1) c:=by obtain ⟨a,c,h⟩:=Row.form (Row.Z6 Nf.o);exact ⟨a,c,by rw [h,UE];rfl⟩
     subst hx;refine Z_.Zb hK _ _ ?_ (fun jU=>?_)
     ·(try dsimp only)
      exact HO.o.facts
     clear hK K;try simp only [Z_.pt]
     refine YP 25 (h:=YP 26 (h:=YK 27 (h:=YP 28 (h:=?_))));refine YR 29 (h:=fun K hK=>?_);refine Ym Zr UN (.tmp 66) Zr (.bool sm) Zr Zr ?_;have F6:Hid ((Pv.alloc (.cells #[.bool sm] 4)).heap[Pv.heap.size]?=some (.cells #[.bool sm] 4 (0,0))):=Z8 Pv _;have U6:=Z' Pv (.cells #[.bool sm] 4);have HO:=Zh (HO.o.below U6);clear U6;refine Z_.Zb hK _ _ ?_ (fun jV=>?_)
     ·(try dsimp only)
      exact HO.o.facts
     clear hK K;try simp only [Z_.pt]
     refine YR 30 (h:=fun K hK=>?_);refine Xe Zr (.tmp 60) (.tmp 67) 122 Zr w.heap.size UN (.slice qa qs.length qc) qs.length (U3 qs) Zr HO.o.quiet ((Pv).heap.size) 1 1 [.bool sm] Zr (row_one F6.o) rfl NQ Zd Zo Zo HO.o.Zg.size ?_;intro v30 qh qZ yO mG;have FQ:Hid (qh.ownsRow w 4 1 v30 (qs++[sm]).length (U3 (qs++[sm]))):=rL;exact Yx76
    | true=>
     refine SX ?_;refine Z_.Zy (d:=33) (S:=(fun w'=>w'.cell? ⟨V,5,none⟩=some (.slice wa ws.length wc)∧w'.cell? ⟨V,6,none⟩=some (.slice ca cs.length cc)∧w'.cell? ⟨V,7,none⟩=some (.slice qa qs.length qc)∧w'.cell? ⟨T,0,none⟩=some (.int .i64 sw)∧w'.cell? ⟨T,1,none⟩=some (.int .i64 sc)∧w'.cell? ⟨T,2,none⟩=some (.bool true)∧w'.cell? ⟨T,3,none⟩=some (.bool sm))) ZB ?_ (fun Ye=>?_)
     ·(try dsimp only)
      exact HO.o.facts
     refine YP 0 (h:=YP 1 (h:=YP 2 (h:=YP 3 (h:=YP 4 (h:=YP 5 (h:=YP 7 (h:=YP 11 (h:=YP 12 (h:=YP 13 (h:=YP 15 (h:=YP 19 (h:=YP 20 (h:=YP 21 (h:=YP 23 (h:=YK 6 (h:=YK 8 (h:=YK 14 (h:=YK 16 (h:=YK 22 (h:=YK 24 (h:=?_)))))))))))))))))))));refine Z_.TK (rs:=[9,17]) ZB Zi ?_;refine Z_.VP (i:=9) rfl (fun K hK=>?_) ?_
     ·skip
      refine Ym Zr W_ (.tmp 46) Zr (.int .i64 sw) Zr Zr ?_;have vC:Hid ((wr.drew.alloc (.cells #[.int .i64 sw] 3)).heap[wr.drew.heap.size]?=some (.cells #[.int .i64 sw] 3 (0,0))):=Z8 wr.drew _;have U6:=Z' wr.drew (.cells #[.int .i64 sw] 3);have HO:=Zh (HO.o.below U6);clear U6;refine Z_.Zb hK _ _ ?_ (fun XU=>?_)
      ·(try dsimp only)
       exact HO.o.facts
      clear hK K;try simp only [Z_.pt]
      refine Z_.TK (rs:=[10,17]) ZB Zi ?_;refine Z_.VP (i:=10) rfl (fun K hK=>?_) ?_
      ·skip
       refine Xe Zr (.tmp 44) (.tmp 47) 72 Zr w.heap.size W_ (.slice wa ws.length wc) ws.length (WA ws) Zr HO.o.want ((wr.drew).heap.size) 1 1 [.int .i64 sw] Zr (row_one vC.o) rfl NQ Zd Zo Zo HO.o.Zg.size ?_;intro v10 UH qX LM JW;have Nc:Hid (UH.ownsRow w 3 1 v10 (ws++[sw]).length (WA (ws++[sw]))):=rN;have HO:=Zh (HO.o.D9 LM.o Nc.o JW.o);obtain ⟨xa,xc,hx⟩:∃ a c,v10 = .slice a (ws.length+1) c:=by obtain ⟨a,c,h⟩:=Row.form (Row.Z6 Nc.o);exact ⟨a,c,by rw [h,UE];rfl⟩
       subst hx;refine Z_.Zb hK _ _ ?_ (fun VG=>?_)
       ·(try dsimp only)
        exact HO.o.facts
       clear hK K;try simp only [Z_.pt]
       refine YR 17 (h:=fun K hK=>?_);refine Ym Zr W_ (.tmp 54) Zr (.int .i64 sc) Zr Zr ?_;have S7:Hid ((UH.alloc (.cells #[.int .i64 sc] 3)).heap[UH.heap.size]?=some (.cells #[.int .i64 sc] 3 (0,0))):=Z8 UH _;have U6:=Z' UH (.cells #[.int .i64 sc] 3);have HO:=Zh (HO.o.below U6);clear U6;refine Z_.Zb hK _ _ ?_ (fun Nj=>?_)
       ·(try dsimp only)
        exact HO.o.facts
       clear hK K;try simp only [Z_.pt]
       refine YR 18 (h:=fun K hK=>?_);refine Xe Zr (.tmp 52) (.tmp 55) 72 Zr w.heap.size W_ (.slice ca cs.length cc) cs.length (WA cs) Zr HO.o.cur ((UH).heap.size) 1 1 [.int .i64 sc] Zr (row_one S7.o) rfl NQ Zd Zo Zo HO.o.Zg.size ?_;intro v18 Pv qY FU F5;have Nf:Hid (Pv.ownsRow w 3 1 v18 (cs++[sc]).length (WA (cs++[sc]))):=rM;have HO:=Zh (HO.o.D8 FU.o Nf.o F5.o);obtain ⟨ya,yc,hx⟩:∃ a c,v18 = .slice a (cs.length+1) c:=by obtain ⟨a,c,h⟩:=Row.form (Row.Z6 Nf.o);exact ⟨a,c,by rw [h,UE];rfl⟩
       subst hx;refine Z_.Zb hK _ _ ?_ (fun Gu=>?_)
       ·(try dsimp only)
        exact HO.o.facts
       clear hK K;try simp only [Z_.pt]
       refine YP 25 (h:=YT 26 (h:=YT 27 (h:=YP 28 (h:=?_))));refine YR 29 (h:=fun K hK=>?_);refine Ym Zr UN (.tmp 66) Zr (.bool true) Zr Zr ?_;have F6:Hid ((Pv.alloc (.cells #[.bool true] 4)).heap[Pv.heap.size]?=some (.cells #[.bool true] 4 (0,0))):=Z8 Pv _;have U6:=Z' Pv (.cells #[.bool true] 4);have HO:=Zh (HO.o.below U6);clear U6;refine Z_.Zb hK _ _ ?_ (fun Gv=>?_)
       ·(try dsimp only)
        exact HO.o.facts
       clear hK K;try simp only [Z_.pt]
       refine YR 30 (h:=fun K hK=>?_);refine Xe Zr (.tmp 60) (.tmp 67) 122 Zr w.heap.size UN (.slice qa qs.length qc) qs.length (U3 qs) Zr HO.o.quiet ((Pv).heap.size) 1 1 [.bool true] Zr (row_one F6.o) rfl NQ Zd Zo Zo HO.o.Zg.size ?_;intro v30 qh qZ yO mG;have FQ:Hid (qh.ownsRow w 4 1 v30 (qs++[true]).length (U3 (qs++[true]))):=rL;exact Yx78
      refine Z_.VP (i:=17) rfl (fun K hK=>?_) Z_.QP;refine Ym Zr W_ (.tmp 54) Zr (.int .i64 sc) Zr Zr ?_;have S7:Hid (((wr.drew.alloc (.cells #[.int .i64 sw] 3)).alloc (.cells #[.int .i64 sc] 3)).heap[(wr.drew.alloc (.cells #[.int .i64 sw] 3)).heap.size]?=some (.cells #[.int .i64 sc] 3 (0,0))):=Z8 (wr.drew.alloc (.cells #[.int .i64 sw] 3)) _;have vA:Hid (∀ i,(Value.slice wa ws.length wc).ownBlock=some i→i<(wr.drew.alloc (.cells #[.int .i64 sw] 3)).heap.size):=fun i hi=>Sm HO.o.want hi
      have U6:=Z' (wr.drew.alloc (.cells #[.int .i64 sw] 3)) (.cells #[.int .i64 sc] 3);have vC:=Zh ((U6.block _ (ZW vC.o)).trans vC.o);have HO:=Zh (HO.o.below U6);clear U6;refine Z_.Zb hK _ _ ?_ (fun Cf=>?_)
      ·(try dsimp only)
       exact HO.o.facts
      clear hK K;try simp only [Z_.pt]
      refine YR 10 (h:=fun K hK=>?_);refine Xe Zr (.tmp 44) (.tmp 47) 72 Zr w.heap.size W_ (.slice wa ws.length wc) ws.length (WA ws) Zr HO.o.want ((wr.drew).heap.size) 1 1 [.int .i64 sw] Zr (row_one vC.o) rfl NQ Zd Zo Zo HO.o.Zg.size ?_;intro v10 UH qX LM JW;have Nc:Hid (UH.ownsRow w 3 1 v10 (ws++[sw]).length (WA (ws++[sw]))):=rN;have S7:=Zh ((LM.o.block _ (ZW S7.o) (fun e=>absurd (vA.o _ e.symm) (Nat.lt_irrefl _))).trans S7.o);have HO:=Zh (HO.o.D9 LM.o Nc.o JW.o);obtain ⟨xa,xc,hx⟩:∃ a c,v10 = .slice a (ws.length+1) c:=by obtain ⟨a,c,h⟩:=Row.form (Row.Z6 Nc.o);exact ⟨a,c,by rw [h,UE];rfl⟩
      subst hx;refine Z_.Zb hK _ _ ?_ (fun Cg=>?_)
      ·(try dsimp only)
       exact HO.o.facts
      clear hK K;try simp only [Z_.pt]
      refine YR 18 (h:=fun K hK=>?_);refine Xe Zr (.tmp 52) (.tmp 55) 72 Zr w.heap.size W_ (.slice ca cs.length cc) cs.length (WA cs) Zr HO.o.cur (((wr.drew.alloc (.cells #[.int .i64 sw] 3))).heap.size) 1 1 [.int .i64 sc] Zr (row_one S7.o) rfl NQ Zd Zo Zo HO.o.Zg.size ?_;intro v18 Pv qY FU F5;have Nf:Hid (Pv.ownsRow w 3 1 v18 (cs++[sc]).length (WA (cs++[sc]))):=rM;have HO:=Zh (HO.o.D8 FU.o Nf.o F5.o);obtain ⟨ya,yc,hx⟩:∃ a c,v18 = .slice a (cs.length+1) c:=by obtain ⟨a,c,h⟩:=Row.form (Row.Z6 Nf.o);exact ⟨a,c,by rw [h,UE];rfl⟩
      subst hx;refine Z_.Zb hK _ _ ?_ (fun Ch=>?_)
      ·(try dsimp only)
       exact HO.o.facts
      clear hK K;try simp only [Z_.pt]
      refine YP 25 (h:=YT 26 (h:=YT 27 (h:=YP 28 (h:=?_))));refine YR 29 (h:=fun K hK=>?_);refine Ym Zr UN (.tmp 66) Zr (.bool true) Zr Zr ?_;have F6:Hid ((Pv.alloc (.cells #[.bool true] 4)).heap[Pv.heap.size]?=some (.cells #[.bool true] 4 (0,0))):=Z8 Pv _;have U6:=Z' Pv (.cells #[.bool true] 4);have HO:=Zh (HO.o.below U6);clear U6;refine Z_.Zb hK _ _ ?_ (fun Ci=>?_)
      ·(try dsimp only)
       exact HO.o.facts
      clear hK K;try simp only [Z_.pt]
      refine YR 30 (h:=fun K hK=>?_);refine Xe Zr (.tmp 60) (.tmp 67) 122 Zr w.heap.size UN (.slice qa qs.length qc) qs.length (U3 qs) Zr HO.o.quiet ((Pv).heap.size) 1 1 [.bool true] Zr (row_one F6.o) rfl NQ Zd Zo Zo HO.o.Zg.size ?_;intro v30 qh qZ yO mG;have FQ:Hid (qh.ownsRow w 4 1 v30 (qs++[true]).length (U3 (qs++[true]))):=rL;exact Yx77
     refine Z_.VP (i:=17) rfl (fun K hK=>?_) Z_.QP;refine Ym Zr W_ (.tmp 54) Zr (.int .i64 sc) Zr Zr ?_;have S7:Hid ((wr.drew.alloc (.cells #[.int .i64 sc] 3)).heap[wr.drew.heap.size]?=some (.cells #[.int .i64 sc] 3 (0,0))):=Z8 wr.drew _;have vA:Hid (∀ i,(Value.slice wa ws.length wc).ownBlock=some i→i<wr.drew.heap.size):=fun i hi=>Sm HO.o.want hi
     have U6:=Z' wr.drew (.cells #[.int .i64 sc] 3);have HO:=Zh (HO.o.below U6);clear U6;refine Z_.Zb hK _ _ ?_ (fun jR=>?_)
     ·(try dsimp only)
      exact HO.o.facts
     clear hK K;try simp only [Z_.pt]
     refine YR 9 (h:=fun K hK=>?_);refine Ym Zr W_ (.tmp 46) Zr (.int .i64 sw) Zr Zr ?_;have vC:Hid (((wr.drew.alloc (.cells #[.int .i64 sc] 3)).alloc (.cells #[.int .i64 sw] 3)).heap[(wr.drew.alloc (.cells #[.int .i64 sc] 3)).heap.size]?=some (.cells #[.int .i64 sw] 3 (0,0))):=Z8 (wr.drew.alloc (.cells #[.int .i64 sc] 3)) _;have U6:=Z' (wr.drew.alloc (.cells #[.int .i64 sc] 3)) (.cells #[.int .i64 sw] 3);have S7:=Zh ((U6.block _ (ZW S7.o)).trans S7.o);have HO:=Zh (HO.o.below U6);clear U6;refine Z_.Zb hK _ _ ?_ (fun jS=>?_)
     ·(try dsimp only)
      exact HO.o.facts
     clear hK K;try simp only [Z_.pt]
     refine YR 10 (h:=fun K hK=>?_);refine Xe Zr (.tmp 44) (.tmp 47) 72 Zr w.heap.size W_ (.slice wa ws.length wc) ws.length (WA ws) Zr HO.o.want (((wr.drew.alloc (.cells #[.int .i64 sc] 3))).heap.size) 1 1 [.int .i64 sw] Zr (row_one vC.o) rfl NQ Zd Zo Zo HO.o.Zg.size ?_;intro v10 UH qX LM JW;have Nc:Hid (UH.ownsRow w 3 1 v10 (ws++[sw]).length (WA (ws++[sw]))):=rN;have S7:=Zh ((LM.o.block _ (ZW S7.o) (fun e=>absurd (vA.o _ e.symm) (Nat.lt_irrefl _))).trans S7.o);have HO:=Zh (HO.o.D9 LM.o Nc.o JW.o);obtain ⟨xa,xc,hx⟩:∃ a c,v10 = .slice a (ws.length+1) c:=by obtain ⟨a,c,h⟩:=Row.form (Row.Z6 Nc.o);exact ⟨a,c,by rw [h,UE];rfl⟩
     subst hx;refine Z_.Zb hK _ _ ?_ (fun jT=>?_)
     ·(try dsimp only)
      exact HO.o.facts
     clear hK K;try simp only [Z_.pt]
     refine YR 18 (h:=fun K hK=>?_);refine Xe Zr (.tmp 52) (.tmp 55) 72 Zr w.heap.size W_ (.slice ca cs.length cc) cs.length (WA cs) Zr HO.o.cur ((wr.drew).heap.size) 1 1 [.int .i64 sc] Zr (row_one S7.o) rfl NQ Zd Zo Zo HO.o.Zg.size ?_;intro v18 Pv qY FU F5;have Nf:Hid (Pv.ownsRow w 3 1 v18 (cs++[sc]).length (WA (cs++[sc]))):=rM;have HO:=Zh (HO.o.D8 FU.o Nf.o F5.o);obtain ⟨ya,yc,hx⟩:∃ a c,v18 = .slice a (cs.length+1) c:=by obtain ⟨a,c,h⟩:=Row.form (Row.Z6 Nf.o);exact ⟨a,c,by rw [h,UE];rfl⟩
     subst hx;refine Z_.Zb hK _ _ ?_ (fun jU=>?_)
     ·(try dsimp only)
      exact HO.o.facts
     clear hK K;try simp only [Z_.pt]
     refine YP 25 (h:=YT 26 (h:=YT 27 (h:=YP 28 (h:=?_))));refine YR 29 (h:=fun K hK=>?_);refine Ym Zr UN (.tmp 66) Zr (.bool true) Zr Zr ?_;have F6:Hid ((Pv.alloc (.cells #[.bool true] 4)).heap[Pv.heap.size]?=some (.cells #[.bool true] 4 (0,0))):=Z8 Pv _;have U6:=Z' Pv (.cells #[.bool true] 4);have HO:=Zh (HO.o.below U6);clear U6;refine Z_.Zb hK _ _ ?_ (fun jV=>?_)
     ·(try dsimp only)
      exact HO.o.facts
     clear hK K;try simp only [Z_.pt]
     refine YR 30 (h:=fun K hK=>?_);refine Xe Zr (.tmp 60) (.tmp 67) 122 Zr w.heap.size UN (.slice qa qs.length qc) qs.length (U3 qs) Zr HO.o.quiet ((Pv).heap.size) 1 1 [.bool true] Zr (row_one F6.o) rfl NQ Zd Zo Zo HO.o.Zg.size ?_;intro v30 qh qZ yO mG;have FQ:Hid (qh.ownsRow w 4 1 v30 (qs++[true]).length (U3 (qs++[true]))):=rL;exact Yx76
   case rest=>
    obtain ⟨w9,rfl⟩:∃ W:World,W=wc:=⟨_,rfl⟩;obtain ⟨wv,cv,qv,ho⟩:=hcut;clear HO;have HO:=Zh ho;clear ho;have HR:Hid (OL w9 wv cv qv (WQ L (⟨p,sr,(nb:Int),f⟩:Zu) (j+1))):=HO.o.rows (by rw [Um,NR,HWS.o,←yt.o];rfl) (by rw [Um,NR,kV.o,←yt.o];rfl) (by rw [Um,NR,DF.o,←yt.o];rfl);have Iu:Hid (VB w9 V k _ _ _ _ L (⟨p,sr,(nb:Int),f⟩:Zu) wv cv qv):=VB.of DA.o HO.o.Zg HO.o.view;have b0:w9.cell? ⟨k,0,none⟩=some (.slice (some ⟨g,o,none⟩) L.length c):=by rw [←a_.o,cell_of Iu.o.book 0];rfl
    have EW:Hid (ws++[sw]=(WQ L (⟨p,sr,(nb:Int),f⟩:Zu) (j+1)).map VS.want):=by show _=_;rw [Um,NR,HWS.o,←yt.o];rfl
    have EC:Hid (cs++[sc]=(WQ L (⟨p,sr,(nb:Int),f⟩:Zu) (j+1)).map VS.cur):=by show _=_;rw [Um,NR,kV.o,←yt.o];rfl
    have EQ:Hid (qs++[sp || sm]=(WQ L (⟨p,sr,(nb:Int),f⟩:Zu) (j+1)).map VS.quiet):=by show _=_;rw [Um,NR,DF.o,←yt.o];rfl
    by_cases RV:j<L.length
    ·have CN:=Zh (rI Iu.o RV (HR.o.at (Ra L (⟨p,sr,(nb:Int),f⟩:Zu) (Nat.lt_succ_self j))));have qW:Hid (Ar L (⟨p,sr,(nb:Int),f⟩:Zu) (Yi L (⟨p,sr,(nb:Int),f⟩:Zu) j) j=Yi L (⟨p,sr,(nb:Int),f⟩:Zu) (j+1)):=rfl;rw [←yt.o] at CN qW;rw [qW.o] at CN;have kT:w9.heap[T]?=some (.cells (Qf sw sc sp sm) 202 (0,0)):=HO.o.st;have zW:(j:Int)<(L.length:Int):=OP.2 RV;generalize hS2:Yi L (⟨p,sr,(nb:Int),f⟩:Zu) (j+1)=s2 at *
     have QC:=Zh hS2;clear hS2 qW yt HS HR Iu;obtain ⟨tw,tc,tp,tm⟩:=s2;dsimp only [XL] at CN;go_wp2_with (first|(with_reducible refine Zj 202 (.tmp 6) rfl ?_;refine Zf rfl 202 (.tmp 6) rfl T rfl 202 (Qf sw sc sp sm) (0,0) _ kT Tryz.underlying202 rfl ZB ?_)|(go_at_call 114;refine CN.o.mono ?_;rintro e UH ⟨rfl,PE⟩;have NH:=Zh (HO.o.below PE);have kT2:UH.heap[T]?=some (.cells (Qf sw sc sp sm) 202 (0,0)):=NH.o.st;clear kT b0 PE)|(with_reducible refine ZU 202 (.tmp 6) (.tmp 85) rfl ?_;refine ZV rfl 202 (.tmp 6) (.tmp 85) rfl rfl T (Qf tw tc tp tm) rfl rfl 202 (Qf sw sc sp sm) kT2 ZB ZB ZB ?_))
     go_roundw
     case rel=>exact ⟨j+1,⟨tw,tc,tp,tm⟩,wv,cv,qv,Zo,Zn,by rw [Nat.min_eq_left Zo,QC.o],by rw [←EW.o,←EC.o,←EQ.o];exact NH.o.setT ⟨tw,tc,tp,tm⟩⟩
     case measure=>simp [intOf];omega
    ·have Mc:j=L.length:=by omega
     have dl:decide ((j:Int)<(L.length:Int))=false:=WI Zo;have dl2:decide (j<L.length)=false:=WI Zo;clear RV;have HJ:=Zh Mc;clear Mc;go_wp2_with fail
     go_roundw
     case rel=>exact ⟨j+1,⟨sw,sc,sp,sm⟩,wv,cv,qv,Zo,Zn,by rw [yt.o,HJ.o,Nat.min_eq_right Zo],by rw [←EW.o,←EC.o,←EQ.o];exact HO.o⟩
     case measure=>simp [intOf];omega
  ·have Mc:j=L.length+1:=by omega
   have dj:decide ((j:Int)<(L.length:Int)+1)=false:=WI Zo;have HJ:=Zh Mc;clear Mc cY;go_wp2_with fail
   go_ret;exact ⟨⟨V,wv,cv,qv,rfl,VB.of DA.o HO.o.Zg HO.o.view,HO.o.rows (by rw [HJ.o]) (by rw [HJ.o]) (by rw [HJ.o])⟩,HO.o.Zg⟩
end Go.Proofs.By
