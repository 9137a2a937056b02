/- Part of a proof. -/
import Derived.Test.YtpdjhlcbcomdkaaGreatDoorW37
set_option linter.unusedVariables false
set_option linter.unusedSimpArgs false
set_option maxRecDepth 100000
set_option maxHeartbeats 16000000
open Go Go.Q Go.Qr
namespace Go.Proofs.By
open Go.RowKit Go.Proofs.Heap Go.Proofs
open Go.Proofs.Rm (below_drewN Xd YL)
theorem UX:Elem Tryz.prog 122 4 1 1:=⟨Tryz.underlying122,⟨.bool false,by kernel_rfl,rfl⟩,by decide⟩
structure bA (w:World) (k:Nat) (ov av mv lv:Value) (L:List VG) (LS:List Zq):Prop where
 book:w.heap[k]?=some (.cells #[ov,av,mv,lv] 116 (0,0))
 ops:Xe w ov L
 XE:Row w 35 av L.length ((XA L L.length).flatMap WE)
 Lz:∃ M:List TW,Row w 97 mv M.length (M.flatMap Xr)∧(∀ y∈M,Vt w y.p y.cv y.ev y.pv)∧M.map (fun y=>(y.p,y.d))=OS L L.length
 QS:Row w 59 lv LS.length (LS.flatMap ZY)
theorem bA.below {w w':World} {k:Nat} {ov av mv lv:Value} {L:List VG} {LS:List Zq} (h:bA w k ov av mv lv L LS) (hb:Below w w w'):bA w' k ov av mv lv L LS:=by
 obtain ⟨M,m1,m0,m2⟩:=h.Lz
 exact ⟨(hb.block _ (ZV h.book)).trans h.book,h.ops.below hb,Row.below h.XE hb,⟨M,Row.below m1 hb,fun y hy=>(m0 y hy).below hb,m2⟩,Row.below h.QS hb⟩
theorem VB.of {w w':World} {V k:Nat} {ov av mv lv:Value} {L:List VG} {LS:List Zq} {x:Zq} {wv cv qv:Value} (h:bA w k ov av mv lv L LS) (hb:Below w w w') (hv:w'.heap[V]?=some (.cells (Q5 (some ⟨k,0,none⟩) x.peer x.source x.Kf x.fin wv cv qv) 164 (0,0))):VB w' V k ov av mv lv L x wv cv qv:=
 ⟨(h.below hb).book,(h.below hb).ops,(h.below hb).XE,(h.below hb).Lz,hv⟩
structure VO (w w':World) (V T k:Nat) (x:Zq) (s:VS) (w0 c0 q0 wv:Value) (ws:List Int) (cv:Value) (cs:List Int) (qv:Value) (qs:List Bool):Prop where
 Zj:Below w w w'
 view:w'.heap[V]?=some (.cells (Q5 (some ⟨k,0,none⟩) x.peer x.source x.Kf x.fin w0 c0 q0) 164 (0,0))
 st:w'.heap[T]?=some (.cells (XO s).toArray 202 (0,0))
 want:w'.ownsRow w 3 1 wv ws.length (WG ws)
 cur:w'.ownsRow w 3 1 cv cs.length (WG cs)
 quiet:w'.ownsRow w 4 1 qv qs.length (U_ qs)
 ne:∀ i,wv.ownBlock=some i→cv.ownBlock≠some i
 ge:w.heap.size≤V∧w.heap.size≤T
theorem Ch (w:World):Below w w w.drew:=(YH _ _).drew
theorem row_one {w:World} {B:Nat} {e:TypeId} {v:Value} (h:w.heap[B]?=some (.cells #[v] e (0,0))):Row w e (.slice (some ⟨B,0,none⟩) 1 1) 1 [v]:=
 ⟨_,_,rfl,Zw _,by unfold maxLen;omega,(fun h=>by cases h),Wi ⟨B,0,_,_,rfl,h,fun j hj=>by
  have hj:j<1:=hj
  have:j=0:=by omega
  subst this
  rfl⟩⟩
section
variable {w w1 w2:World} {V T k:Nat} {x:Zq} {s:VS} {w0 c0 q0 wv:Value} {ws:List Int} {cv:Value} {cs:List Int} {qv:Value} {qs:List Bool}
theorem VO.below (h:VO w w1 V T k x s w0 c0 q0 wv ws cv cs qv qs) (hb:Below w1 w1 w2):VO w w2 V T k x s w0 c0 q0 wv ws cv cs qv qs:=
 ⟨h.Zj.trans (hb.mono h.Zj.size),(hb.block _ (ZV h.view)).trans h.view,(hb.block _ (ZV h.st)).trans h.st,Yx h.want hb,Yx h.cur hb,Yx h.quiet hb,h.ne,h.ge⟩
theorem VO.facts (h:VO w w1 V T k x s w0 c0 q0 wv ws cv cs qv qs):w1.cell? ⟨V,5,none⟩=some w0∧w1.cell? ⟨V,6,none⟩=some c0∧w1.cell? ⟨V,7,none⟩=some q0∧w1.cell? ⟨T,0,none⟩=some (.int .i64 s.want)∧w1.cell? ⟨T,1,none⟩=some (.int .i64 s.cur)∧w1.cell? ⟨T,2,none⟩=some (.bool s.ZR)∧w1.cell? ⟨T,3,none⟩=some (.bool s.ZG):=
 ⟨Zc h.view 5 rfl,Zc h.view 6 rfl,Zc h.view 7 rfl,Zc h.st 0 rfl,Zc h.st 1 rfl,Zc h.st 2 rfl,Zc h.st 3 rfl⟩
theorem Sw {w:World} {base:Nat} {e:TypeId} {size:Nat} {v:Value} {n:Nat} {xs:List Value} (h:w.ownsRow base e size v n xs) {i:Nat} (hi:v.ownBlock=some i):i<w.heap.size:=by
 obtain ⟨cu,hc⟩:=Wq h i hi
 exact ZV hc
theorem VO.El (h:VO w w1 V T k x s w0 c0 q0 wv ws cv cs qv qs) (hg:w1.grownBy w2 wv.ownBlock) {bw:Value} {ws':List Int} (ho:w2.ownsRow w 3 1 bw ws'.length (WG ws')) (hw:∀ i,bw.ownBlock=some i→wv.ownBlock=some i∨i=w1.heap.size):VO w w2 V T k x s w0 c0 q0 bw ws' cv cs qv qs:=
 ⟨((Fr.Z8 P_ h.Zj).grown hg h.Zj.size (YL h.want)).below,(hg.block _ (ZV h.view) (fun e=>Zf h.want Zd _ _ _ e.symm h.view)).trans h.view,(hg.block _ (ZV h.st) (fun e=>Zf h.want Zd _ _ _ e.symm h.st)).trans h.st,ho,
  XS h.cur (fun i hi=>hg.block i (Sw h.cur hi) (fun e=>h.ne i e.symm hi)),Vn h.quiet h.want Zd hg,
  fun i hi hc=>by rcases hw i hi with h1|h1;exact h.ne i h1 hc;have:=Sw h.cur hc;omega,h.ge⟩
theorem VO.Ek (h:VO w w1 V T k x s w0 c0 q0 wv ws cv cs qv qs) (hg:w1.grownBy w2 cv.ownBlock) {dx:Value} {cs':List Int} (ho:w2.ownsRow w 3 1 dx cs'.length (WG cs')) (hw:∀ i,dx.ownBlock=some i→cv.ownBlock=some i∨i=w1.heap.size):VO w w2 V T k x s w0 c0 q0 wv ws dx cs' qv qs:=
 ⟨((Fr.Z8 P_ h.Zj).grown hg h.Zj.size (YL h.cur)).below,(hg.block _ (ZV h.view) (fun e=>Zf h.cur Zd _ _ _ e.symm h.view)).trans h.view,(hg.block _ (ZV h.st) (fun e=>Zf h.cur Zd _ _ _ e.symm h.st)).trans h.st,
  XS h.want (fun i hi=>hg.block i (Sw h.want hi) (fun e=>h.ne i hi e.symm)),ho,Vn h.quiet h.cur Zd hg,
  fun i hi hc=>by rcases hw i hc with h1|h1;exact h.ne i hi h1;have:=Sw h.want hi;omega,h.ge⟩
theorem VO.oM (h:VO w w1 V T k x s w0 c0 q0 wv ws cv cs qv qs) (hg:w1.grownBy w2 qv.ownBlock) {qv':Value} {qs':List Bool} (ho:w2.ownsRow w 4 1 qv' qs'.length (U_ qs')):VO w w2 V T k x s w0 c0 q0 wv ws cv cs qv' qs':=
 ⟨((Fr.Z8 P_ h.Zj).grown hg h.Zj.size (YL h.quiet)).below,(hg.block _ (ZV h.view) (fun e=>Zf h.quiet Zd _ _ _ e.symm h.view)).trans h.view,(hg.block _ (ZV h.st) (fun e=>Zf h.quiet Zd _ _ _ e.symm h.st)).trans h.st,
  Vn h.want h.quiet Zd hg,Vn h.cur h.quiet Zd hg,ho,h.ne,h.ge⟩
theorem VO.vt (h:VO w w1 V T k x s w0 c0 q0 wv ws cv cs qv qs):V≠T:=fun e=>by
 have h1:=h.view
 rw [e,h.st] at h1
 injection h1 with h1
 injection h1 with _ h1
 exact absurd h1 Zd
theorem VO.rest (h:VO w w1 V T k x s w0 c0 q0 wv ws cv cs qv qs) {b:Nat} (hb:b=V∨b=T) (he:∀ j,j≠b→w2.heap[j]?=w1.heap[j]?):w2.ownsRow w 3 1 wv ws.length (WG ws)∧w2.ownsRow w 3 1 cv cs.length (WG cs)∧w2.ownsRow w 4 1 qv qs.length (U_ qs):=by
 have hn:∀ {v:Value} {e:TypeId} {n:Nat} {xs:List Value},w1.ownsRow w e 1 v n xs→e=3∨e=4→∀ i,v.ownBlock=some i→i≠b:=fun ho ht i hi hib=>by
  subst hib
  rcases hb with rfl|rfl
  ·exact Zf ho (by rcases ht with rfl|rfl <;> decide) _ _ _ hi h.view
  ·exact Zf ho (by rcases ht with rfl|rfl <;> decide) _ _ _ hi h.st
 exact ⟨XS h.want (fun i hi=>he i (hn h.want (Ww rfl) i hi)),XS h.cur (fun i hi=>he i (hn h.cur (Ww rfl) i hi)),XS h.quiet (fun i hi=>he i (hn h.quiet (Wi rfl) i hi))⟩
theorem VO.fC (h:VO w w1 V T k x s w0 c0 q0 wv ws cv cs qv qs) (o:Nat) (u w0' c0' q0':Value) (hs:[.pointer (some ⟨k,0,none⟩),.int .i64 x.peer,.int .i64 x.source,.int .i64 x.Kf,.int .i64 x.fin,w0,c0,q0].set o u=(Q5 (some ⟨k,0,none⟩) x.peer x.source x.Kf x.fin w0' c0' q0')):VO w (w1.setCell ⟨V,o,none⟩ u) V T k x s w0' c0' q0' wv ws cv cs qv qs:=by
 have h2:=VM h.view o u
 rw [List.setIfInBounds_toArray,hs] at h2
 obtain ⟨r1,r2,r3⟩:=h.rest (w2:=w1.setCell ⟨V,o,none⟩ u) (Ww rfl) (fun j hj=>MW w1 ⟨V,o,none⟩ u j hj)
 exact ⟨((Fr.Z8 P_ h.Zj).setCell (p:=⟨V,o,none⟩) (Ww h.ge.1) _).below,h2,(MW w1 ⟨V,o,none⟩ u T (fun e=>h.vt e.symm)).trans h.st,r1,r2,r3,h.ne,h.ge⟩
theorem VO.setT (h:VO w w1 V T k x s w0 c0 q0 wv ws cv cs qv qs) (s':VS):VO w (w1.setRow T (XO s').toArray) V T k x s' w0 c0 q0 wv ws cv cs qv qs:=by
 obtain ⟨r1,r2,r3⟩:=h.rest (w2:=w1.setRow T (XO s').toArray) (Wi rfl) (fun j hj=>setRow_other w1 T j _ hj)
 exact ⟨Z3 h.Zj h.ge.2 _,by rw [setRow_other w1 T V _ h.vt];exact h.view,setRow_heap _ _ _ _ _ _ h.st,r1,r2,r3,h.ne,h.ge⟩
theorem VO.rows (h:VO w w1 V T k x s w0 c0 q0 wv ws cv cs qv qs) {SS:List VS} (h1:ws=SS.map VS.want) (h2:cs=SS.map VS.cur) (h3:qs=SS.map VS.quiet):Og w1 wv cv qv SS:=by
 subst h1;subst h2;subst h3
 have a:=Row.Z6 h.want
 have b:=Row.Z6 h.cur
 have c:=Row.Z6 h.quiet
 rw [Tx] at a b c
 exact ⟨a,b,c⟩
theorem GZ (l:List Int) (z:Int):WG (l++[z])=WG l++[.int .i64 z]:=by simp [WG]
theorem zP (l:List Bool) (z:Bool):U_ (l++[z])=U_ l++[.bool z]:=by simp [U_]
end
theorem r9 {k:Nat} {ov av mv lv:Value} {L:List VG} {LS:List Zq} {w:World} (h:bA w k ov av mv lv L LS) (x:Zq) (hx:x ∉ LS) :
  Calls Tryz.prog 87 (Qi (some ⟨k,0,none⟩) (ZY x).toArray) w fun e w'=>e = .returned (.pointer none)∧Below w w w':=by
 have dP:decide (x∈LS)=false:=WB hx
 have zh:=Zh h
 have pj:∃ a n c,lv = .slice a n c:=by obtain ⟨a,c,e⟩:=Row.form h.QS;exact ⟨a,_,c,e⟩
 obtain ⟨la,ln,lc,rfl⟩:=pj
 have fG:=Zh (fun (w':World) (hb:Below w w w')=>MH _ LS x w' (Row.below h.QS hb))
 rw [dP] at fG
 clear dP hx h
 obtain ⟨p,sr,b,f⟩:=x
 dsimp only [ZY] at fG ⊢
 have Sc:Hid ((w.alloc (.cells (Qe p sr b f) 59)).heap[w.heap.size]?=some (.cells (Qe p sr b f) 59 (0,0))):=Z7 w _
 have Vp:Hid (Below w w (w.alloc (.cells (Qe p sr b f) 59))):=Z' w _
 go_enter Tryz.func87,Tryz.ntmps87
 go_upto_region 1 with fail
 generalize w.alloc (.cells (Qe p sr b f) 59)=w1 at *
 have Zz:Hid (∀ w',Below w1 w1 w'→w'.cell? ⟨k,3,none⟩=some (.slice la ln lc)∧w'.rangeAt w.heap.size 0 (Qe p sr b f)∧Below w1 w1 w'):=fun w' hb=>
  ⟨by rw [cell_of (zh.o.below (Vp.o.trans (hb.mono Vp.o.size))).book 3];rfl,fun m v hm=>by rw [QP,cell_of ((hb.block _ (ZV Sc.o)).trans Sc.o) m];simpa using hm,hb⟩
 have CC:=Zh (fG.o w1.drew (Vp.o.trans ((YH w1.heap.size w1).drew.mono Vp.o.size)))
 refine Sd ?_
 refine Z_.Zu (d:=5) (S:=(fun w'=>w'.cell? ⟨k,3,none⟩=some (.slice la ln lc)∧w'.rangeAt w.heap.size 0 (Qe p sr b f)∧Below w1 w1 w')) ZB ?_ (fun X_=>?_)
 ·(try dsimp only)
  exact Zz.o _ (YH _ _).drew
 refine YP 0 (h:=YP 1 (h:=YP 2 (h:=YK 3 (h:=?_))))
 refine Z_.tk 4 ?_ rfl ?_ <| ?_
 rotate_left
 ·intro wS TE;(try dsimp only at TE)
  refine (Xw 59 (.tmp 3) ?_ w.heap.size 0 ?_ (Qe p sr b f) _ TE.2.1 Tryz.underlying59 rfl ZB).trans ?_
  all_goals rfl
 try simp only [Z_.pt]
 refine YR 5 (h:=fun K hK=>?_)
 go_simp
 refine CC.o.mono ?_
 rintro e w2 ⟨rfl,Y0⟩
 have X6:=Zh ((YH w1.heap.size w1).drew.trans Y0)
 clear Y0
 go_wp2_with fail
 refine Z_.Ye hK _ _ ZB ?_
 clear hK K
 try simp only [Z_.pt]
 refine YP 6 (h:=?_)
 refine Z_.Yr ZB ?_ _
 refine QY ?_
 go_wp2_with fail
 go_ret
 exact ⟨rfl,Vp.o.trans (X6.o.mono Vp.o.size)⟩
theorem r_ {k:Nat} {ov av mv lv:Value} {L:List VG} {LS:List Zq} {w:World} (h:bA w k ov av mv lv L LS) (hL:L.length≤256) (x:Zq) (hx:x∈LS) (h0:0≤x.Kf) (h1:x.Kf<L.length) :
  Calls Tryz.prog 87 (Qi (some ⟨k,0,none⟩) (ZY x).toArray) w fun e w'=>(∃ V wv cv qv,e = .returned (.pointer (some ⟨V,0,none⟩))∧VB w' V k ov av mv lv L x wv cv qv∧Og w' wv cv qv (WK L x (L.length+1)))∧Below w w w':=by
 have dP:decide (x∈LS)=true:=We hx
 have zh:=Zh h
 have pj:∃ a n c,lv = .slice a n c:=by obtain ⟨a,c,e⟩:=Row.form h.QS;exact ⟨a,_,c,e⟩
 obtain ⟨la,ln,lc,rfl⟩:=pj
 have fG:=Zh (fun (w':World) (hb:Below w w w')=>MH _ LS x w' (Row.below h.QS hb))
 rw [dP] at fG
 clear dP hx h
 obtain ⟨nb,hnb⟩:∃ nb:Nat,x.Kf=(nb:Int):=⟨x.Kf.toNat,Zo⟩
 obtain ⟨p,sr,b,f⟩:=x
 have hnb:b=(nb:Int):=hnb
 have h1:b<L.length:=h1
 subst hnb
 clear h0
 dsimp only [ZY] at fG ⊢
 have hnL:nb<L.length:=by omega
 clear h1
 have Sc:Hid ((w.alloc (.cells (Qe p sr (nb:Int) f) 59)).heap[w.heap.size]?=some (.cells (Qe p sr (nb:Int) f) 59 (0,0))):=Z7 w _
 have Vp:Hid (Below w w (w.alloc (.cells (Qe p sr (nb:Int) f) 59))):=Z' w _
 go_enter Tryz.func87,Tryz.ntmps87
 go_upto_region 1 with fail
 generalize w.alloc (.cells (Qe p sr (nb:Int) f) 59)=w1 at *
 have Zz:Hid (∀ w',Below w1 w1 w'→w'.cell? ⟨k,3,none⟩=some (.slice la ln lc)∧w'.rangeAt w.heap.size 0 (Qe p sr (nb:Int) f)∧Below w1 w1 w'):=fun w' hb=>
  ⟨by rw [cell_of (zh.o.below (Vp.o.trans (hb.mono Vp.o.size))).book 3];rfl,fun m v hm=>by rw [QP,cell_of ((hb.block _ (ZV Sc.o)).trans Sc.o) m];simpa using hm,hb⟩
 have CC:=Zh (fG.o w1.drew (Vp.o.trans ((YH w1.heap.size w1).drew.mono Vp.o.size)))
 refine Sd ?_
 refine Z_.Zu (d:=5) (S:=(fun w'=>w'.cell? ⟨k,3,none⟩=some (.slice la ln lc)∧w'.rangeAt w.heap.size 0 (Qe p sr (nb:Int) f)∧Below w1 w1 w')) ZB ?_ (fun X_=>?_)
 ·(try dsimp only)
  exact Zz.o _ (YH _ _).drew
 refine YP 0 (h:=YP 1 (h:=YP 2 (h:=YK 3 (h:=?_))))
 refine Z_.tk 4 ?_ rfl ?_ <| ?_
 rotate_left
 ·intro wS TE;(try dsimp only at TE)
  refine (Xw 59 (.tmp 3) ?_ w.heap.size 0 ?_ (Qe p sr (nb:Int) f) _ TE.2.1 Tryz.underlying59 rfl ZB).trans ?_
  all_goals rfl
 try simp only [Z_.pt]
 refine YR 5 (h:=fun K hK=>?_)
 go_simp
 refine CC.o.mono ?_
 rintro e w2 ⟨rfl,Y0⟩
 have X6:=Zh ((YH w1.heap.size w1).drew.trans Y0)
 clear Y0
 go_wp2_with fail
 refine Z_.Ye hK _ _ ZB ?_
 clear hK K
 try simp only [Z_.pt]
 refine YP 6 (h:=?_)
 refine Z_.Yr ZB ?_ _
 refine QY ?_
 have VT:=Zh (Vp.o.trans (X6.o.mono Vp.o.size))
 have mb:Hid (w2.heap[w.heap.size]?=some (.cells (Qe p sr (nb:Int) f) 59 (0,0))):=(X6.o.block _ (ZV Sc.o)).trans Sc.o
 have jf:=Zh (zh.o.below VT.o)
 clear Vp X6 Sc Zz CC fG X_
 obtain ⟨g,o,c,nm,a1,n1,c1,a2,n2,c2,aZ,BD⟩:=qo jf.o.ops hnL
 have bU:=Zh aZ
 have HLY:Hid (w2.cell? ⟨g,o+nb*7+3,none⟩=some (.int .i64 (opAt L nb).ZF)):=PF BD 3 rfl
 have pW:=mb.o
 clear aZ BD
 go_upto_region 4 with (with_reducible refine Y8 59 (.tmp 3) rfl ?_;refine Y9 rfl 59 (.tmp 3) rfl w.heap.size rfl 59 (Qe p sr (nb:Int) f) (0,0) _ pW Tryz.underlying59 rfl ZB ?_)
 clear pW
 have HV4:Hid ((w2.alloc (.cells (Ji (some ⟨k,0,none⟩) p sr (nb:Int) f none 0 0 none 0 0 none 0 0) 164)).heap[w2.heap.size]?=some (.cells (Ji (some ⟨k,0,none⟩) p sr (nb:Int) f none 0 0 none 0 0 none 0 0) 164 (0,0))):=Z7 w2 _
 have je:Hid (Below w2 w2 (w2.alloc (.cells (Ji (some ⟨k,0,none⟩) p sr (nb:Int) f none 0 0 none 0 0 none 0 0) 164))):=Z' w2 _
 have HGV:Hid (w.heap.size≤w2.heap.size):=VT.o.size
 generalize w2.alloc (.cells (Ji (some ⟨k,0,none⟩) p sr (nb:Int) f none 0 0 none 0 0 none 0 0) 164)=w4 at *
 have Uc:=Zh (VT.o.trans (je.o.mono VT.o.size))
 have hnI:(nb:Int)<(L.length:Int):=Ou.2 hnL
 have RV:Hid (∀ w',Below w4 w4 w'→w'.cell? ⟨k,0,none⟩=some (.slice (some ⟨g,o,none⟩) L.length c)∧w'.cell? ⟨w,2,none⟩=some (.int .i64 (nb:Int))∧w'.cell? ⟨g,o+nb*7+3,none⟩=some (.int .i64 (opAt L nb).ZF)):=fun w' hb=>
  have Y0:=je.o.trans (hb.mono je.o.size)
  ⟨by rw [←bU.o,cell_of (jf.o.below Y0).book 0];rfl,by rw [cell_of ((Y0.block _ (ZV mb.o)).trans mb.o) 2];rfl,Yi HLY.o Y0⟩
 refine Sd ?_
 refine Z_.Zu (d:=11) (S:=(fun w'=>w'.cell? ⟨k,0,none⟩=some (.slice (some ⟨g,o,none⟩) L.length c)∧w'.cell? ⟨w,2,none⟩=some (.int .i64 (nb:Int))∧w'.cell? ⟨g,o+nb*7+3,none⟩=some (.int .i64 (opAt L nb).ZF))) ZB ?_ (fun X_=>?_)
 ·(try dsimp only)
  exact RV.o _ (YH _ _).drew
 refine YP 0 (h:=YP 1 (h:=YP 2 (h:=YP 4 (h:=YK 3 (h:=YK 5 (h:=YP 6 (h:=YP 7 (h:=YK 8 (h:=YP 9 (h:=?_))))))))))
 refine YR 10 (h:=fun K hK=>?_)
 go_simp
 refine Z_.Y_ hK _ _ ?_ (fun XC=>?_)
 ·(try dsimp only)
  exact RV.o _ (by first|exact (YH _ _).drew|exact ZC (YH _ _).drew (Zw _) _)
 clear hK K
 try simp only [Z_.pt]
 refine YR 11 (h:=fun K hK=>?_)
 refine Sz Zr 202 (.tmp 6) (.tmp 28) Zr Zr w4.heap.size (XO (Wu L (⟨p,sr,(nb:Int),f⟩:Zq) 0)).toArray Zr Zr 202 _ (Z7 w4.drew _) ZB Zr (Hw _) ?_
 refine Z_.Ye hK _ _ ZB ?_
 clear hK K
 try simp only [Z_.pt]
 refine Z_.Yr ZB ?_ _
 refine QY ?_
 go_upto_region 5 with fail
 have I2:Hid (VO w ((w4.alloc (.cells (Qf 0 0 false false) 202)).drew.setRow w4.heap.size (XO (Wu L (⟨p,sr,(nb:Int),f⟩:Zq) 0)).toArray) w2.heap.size w4.heap.size k (⟨p,sr,(nb:Int),f⟩:Zq) (Wu L (⟨p,sr,(nb:Int),f⟩:Zq) 0) (.slice none 0 0) (.slice none 0 0) (.slice none 0 0) (.slice none 0 0) [] (.slice none 0 0) [] (.slice none 0 0) []):=
  have hv:w4.heap.size≠w2.heap.size:=fun e=>absurd (ZV HV4.o) Zo
  have ha:=ZC (Ch w4) (Zw _) (.cells (Qf 0 0 false false) 202)
  ⟨Z3 (Uc.o.trans (ha.mono Uc.o.size)) Uc.o.size _,by rw [setRow_other _ _ _ _ (fun e=>hv e.symm)];exact (ha.block _ (ZV HV4.o)).trans HV4.o,setRow_heap _ _ _ _ _ _ (Z7 w4.drew _),Ua _ _ _ _,Ua _ _ _ _,Ua _ _ _ _,(fun i h=>by cases h),HGV.o,Uc.o.size⟩
 clear HV4 je Uc RV VT mb HGV HLY
 generalize ((w4.alloc (.cells (Qf 0 0 false false) 202)).drew.setRow w4.heap.size (XO (Wu L (⟨p,sr,(nb:Int),f⟩:Zq) 0)).toArray)=w6 at *
 generalize w2.heap.size=V at *
 generalize w4.heap.size=T at *
 have b0:w6.cell? ⟨k,0,none⟩=some (.slice (some ⟨g,o,none⟩) L.length c):=by rw [←bU.o,cell_of (zh.o.below I2.o.Zj).book 0];rfl
 go_wp2_with fail
 clear b0
 go_loopw [35] (fun s35 w'=>∃ (j:Nat) (s:VS) (wv cv qv:Value),j≤L.length+1∧s35 = .int .i64 (j:Int)∧s=Wu L (⟨p,sr,(nb:Int),f⟩:Zq) (min j L.length)∧VO w w' V T k (⟨p,sr,(nb:Int),f⟩:Zq) s wv cv qv wv ((WK L (⟨p,sr,(nb:Int),f⟩:Zq) j).map VS.want) cv ((WK L (⟨p,sr,(nb:Int),f⟩:Zq) j).map VS.cur) qv ((WK L (⟨p,sr,(nb:Int),f⟩:Zq) j).map VS.quiet)) (fun s35 _=>L.length+1-(intOf s35).toNat)
 case atStart=>exact ⟨0,_,_,_,_,Zo,rfl,by rw [Nat.min_eq_left (Tw _)],I2.o⟩
 case round=>
  obtain ⟨j,s,wv,cv,qv,hj,rfl,hs,ho⟩:=hrel
  have HO:=Zh ho
  have HS:=Zh hs
  clear ho hs I2
  by_cases dZ:j<L.length+1
  ·have dj:decide ((j:Int)<(L.length:Int)+1)=true:=We Zo
   have yN:Hid (s=Wu L (⟨p,sr,(nb:Int),f⟩:Zq) j):=by show _=_;rw [HS.o,Nat.min_eq_left Zo]
   obtain ⟨ws,hws⟩:∃ ws,ws=(WK L (⟨p,sr,(nb:Int),f⟩:Zq) j).map VS.want:=⟨_,rfl⟩
   obtain ⟨cs,Tz⟩:∃ cs,cs=(WK L (⟨p,sr,(nb:Int),f⟩:Zq) j).map VS.cur:=⟨_,rfl⟩
   obtain ⟨qs,hqs⟩:∃ qs,qs=(WK L (⟨p,sr,(nb:Int),f⟩:Zq) j).map VS.quiet:=⟨_,rfl⟩
   have lw:ws.length≤300:=by rw [hws,Tx,NK];omega
   have lc':cs.length≤300:=by rw [Tz,Tx,NK];omega
   have lq:qs.length≤300:=by rw [hqs,Tx,NK];omega
   rw [←hws,←Tz,←hqs] at HO
   have HWS:=Zh hws
   have lU:=Zh Tz
   have DX:=Zh hqs
   clear hws Tz hqs
   obtain ⟨wa,wc,rfl⟩:=Row.form (Row.Z6 HO.o.want)
   obtain ⟨ca,cc,rfl⟩:=Row.form (Row.Z6 HO.o.cur)
   obtain ⟨qa,qc,rfl⟩:=Row.form (Row.Z6 HO.o.quiet)
   obtain ⟨sw,sc,sp,sm⟩:=s
   go_upto_region 8 with fail
   have HO:=Zh (HO.o.below (YH _ _).drew)
   go_cut [] (fun wx=>∃ bw dx qv',VO w wx V T k (⟨p,sr,(nb:Int),f⟩:Zq) ⟨sw,sc,sp,sm⟩ bw dx qv' bw (ws++[sw]) dx (cs++[sc]) qv' (qs++[sp || sm]))
   case first=>
    cases sp with
    | false=>
     refine Sd ?_
     refine Z_.Zu (d:=33) (S:=(fun w'=>w'.cell? ⟨V,5,none⟩=some (.slice wa ws.length wc)∧w'.cell? ⟨V,6,none⟩=some (.slice ca cs.length cc)∧w'.cell? ⟨V,7,none⟩=some (.slice qa qs.length qc)∧w'.cell? ⟨T,0,none⟩=some (.int .i64 sw)∧w'.cell? ⟨T,1,none⟩=some (.int .i64 sc)∧w'.cell? ⟨T,2,none⟩=some (.bool false)∧w'.cell? ⟨T,3,none⟩=some (.bool sm))) ZB ?_ (fun X_=>?_)
     ·(try dsimp only)
      exact HO.o.facts
     refine YP 0 (h:=YP 1 (h:=YP 2 (h:=YP 3 (h:=YP 4 (h:=YP 5 (h:=YP 7 (h:=YP 11 (h:=YP 12 (h:=YP 13 (h:=YP 15 (h:=YP 19 (h:=YP 20 (h:=YP 21 (h:=YP 23 (h:=YK 6 (h:=YK 8 (h:=YK 14 (h:=YK 16 (h:=YK 22 (h:=YK 24 (h:=?_)))))))))))))))))))))
     refine Z_.TR (rs:=[9,17]) ZB Zi ?_
     refine Z_.VX (i:=9) rfl (fun K hK=>?_) ?_
     ·skip
      refine Yo Zr Xd (.tmp 46) Zr (.int .i64 sw) Zr Zr ?_
      have vU:Hid ((wr.drew.alloc (.cells #[.int .i64 sw] 3)).heap[wr.drew.heap.size]?=some (.cells #[.int .i64 sw] 3 (0,0))):=Z7 wr.drew _
      have Vb:=Z' wr.drew (.cells #[.int .i64 sw] 3)
      have HO:=Zh (HO.o.below Vb)
      clear Vb
      refine Z_.Y_ hK _ _ ?_ (fun XC=>?_)
      ·(try dsimp only)
       exact HO.o.facts
      clear hK K
      try simp only [Z_.pt]
      refine Z_.TR (rs:=[10,17]) ZB Zi ?_
      refine Z_.VX (i:=10) rfl (fun K hK=>?_) ?_
      ·skip
       refine Xj Zr (.tmp 44) (.tmp 47) 72 Zr w.heap.size Xd (.slice wa ws.length wc) ws.length (WG ws) Zr HO.o.want ((wr.drew).heap.size) 1 1 [.int .i64 sw] Zr (row_one vU.o) rfl N6 Zd Zo Zo HO.o.Zj.size ?_
       intro v10 SA rL L8 J8
       have Nr:Hid (SA.ownsRow w 3 1 v10 (ws++[sw]).length (WG (ws++[sw]))):=sj
       have HO:=Zh (HO.o.El L8.o Nr.o J8.o)
       obtain ⟨xa,xc,hx⟩:∃ a c,v10 = .slice a (ws.length+1) c:=by obtain ⟨a,c,h⟩:=Row.form (Row.Z6 Nr.o);exact ⟨a,c,by rw [h,UM];rfl⟩
       subst hx
       refine Z_.Y_ hK _ _ ?_ (fun VE=>?_)
       ·(try dsimp only)
        exact HO.o.facts
       clear hK K
       try simp only [Z_.pt]
       refine YR 17 (h:=fun K hK=>?_)
       refine Yo Zr Xd (.tmp 54) Zr (.int .i64 sc) Zr Zr ?_
       have Tc:Hid ((SA.alloc (.cells #[.int .i64 sc] 3)).heap[SA.heap.size]?=some (.cells #[.int .i64 sc] 3 (0,0))):=Z7 SA _
       have Vb:=Z' SA (.cells #[.int .i64 sc] 3)
       have HO:=Zh (HO.o.below Vb)
       clear Vb
       refine Z_.Y_ hK _ _ ?_ (fun OD=>?_)
       ·(try dsimp only)
        exact HO.o.facts
       clear hK K
       try simp only [Z_.pt]
       refine YR 18 (h:=fun K hK=>?_)
       refine Xj Zr (.tmp 52) (.tmp 55) 72 Zr w.heap.size Xd (.slice ca cs.length cc) cs.length (WG cs) Zr HO.o.cur ((SA).heap.size) 1 1 [.int .i64 sc] Zr (row_one Tc.o) rfl N6 Zd Zo Zo HO.o.Zj.size ?_
       intro v18 PS rM Gc Gk
       have Ns:Hid (PS.ownsRow w 3 1 v18 (cs++[sc]).length (WG (cs++[sc]))):=si
       have HO:=Zh (HO.o.Ek Gc.o Ns.o Gk.o)
       obtain ⟨ya,yc,hx⟩:∃ a c,v18 = .slice a (cs.length+1) c:=by obtain ⟨a,c,h⟩:=Row.form (Row.Z6 Ns.o);exact ⟨a,c,by rw [h,UM];rfl⟩
       subst hx
       refine Z_.Y_ hK _ _ ?_ (fun GP=>?_)
       ·(try dsimp only)
        exact HO.o.facts
       clear hK K
       try simp only [Z_.pt]
       refine YP 25 (h:=YP 26 (h:=YK 27 (h:=YP 28 (h:=?_))))
       refine YR 29 (h:=fun K hK=>?_)
       refine Yo Zr UX (.tmp 66) Zr (.bool sm) Zr Zr ?_
       have Gl:Hid ((PS.alloc (.cells #[.bool sm] 4)).heap[PS.heap.size]?=some (.cells #[.bool sm] 4 (0,0))):=Z7 PS _
       have Vb:=Z' PS (.cells #[.bool sm] 4)
       have HO:=Zh (HO.o.below Vb)
       clear Vb
       refine Z_.Y_ hK _ _ ?_ (fun GQ=>?_)
       ·(try dsimp only)
        exact HO.o.facts
       clear hK K
       try simp only [Z_.pt]
       refine YR 30 (h:=fun K hK=>?_)
       refine Xj Zr (.tmp 60) (.tmp 67) 122 Zr w.heap.size UX (.slice qa qs.length qc) qs.length (U_ qs) Zr HO.o.quiet ((PS).heap.size) 1 1 [.bool sm] Zr (row_one Gl.o) rfl N6 Zd Zo Zo HO.o.Zj.size ?_
       intro v30 qQ rN zo nu
       have F_:Hid (qQ.ownsRow w 4 1 v30 (qs++[sm]).length (U_ (qs++[sm]))):=sf
       exact Yx78
      refine Z_.VX (i:=17) rfl (fun K hK=>?_) Z_.Q_
      refine Yo Zr Xd (.tmp 54) Zr (.int .i64 sc) Zr Zr ?_
      have Tc:Hid (((wr.drew.alloc (.cells #[.int .i64 sw] 3)).alloc (.cells #[.int .i64 sc] 3)).heap[(wr.drew.alloc (.cells #[.int .i64 sw] 3)).heap.size]?=some (.cells #[.int .i64 sc] 3 (0,0))):=Z7 (wr.drew.alloc (.cells #[.int .i64 sw] 3)) _
      have vS:Hid (∀ i,(Value.slice wa ws.length wc).ownBlock=some i→i<(wr.drew.alloc (.cells #[.int .i64 sw] 3)).heap.size):=fun i hi=>Sw HO.o.want hi
      have Vb:=Z' (wr.drew.alloc (.cells #[.int .i64 sw] 3)) (.cells #[.int .i64 sc] 3)
      have vU:=Zh ((Vb.block _ (ZV vU.o)).trans vU.o)
      have HO:=Zh (HO.o.below Vb)
      clear Vb
      refine Z_.Y_ hK _ _ ?_ (fun Cv=>?_)
      ·(try dsimp only)
       exact HO.o.facts
      clear hK K
      try simp only [Z_.pt]
      refine YR 10 (h:=fun K hK=>?_)
      refine Xj Zr (.tmp 44) (.tmp 47) 72 Zr w.heap.size Xd (.slice wa ws.length wc) ws.length (WG ws) Zr HO.o.want ((wr.drew).heap.size) 1 1 [.int .i64 sw] Zr (row_one vU.o) rfl N6 Zd Zo Zo HO.o.Zj.size ?_
      intro v10 SA rL L8 J8
      have Nr:Hid (SA.ownsRow w 3 1 v10 (ws++[sw]).length (WG (ws++[sw]))):=sj
      have Tc:=Zh ((L8.o.block _ (ZV Tc.o) (fun e=>absurd (vS.o _ e.symm) (Nat.lt_irrefl _))).trans Tc.o)
      have HO:=Zh (HO.o.El L8.o Nr.o J8.o)
      obtain ⟨xa,xc,hx⟩:∃ a c,v10 = .slice a (ws.length+1) c:=by obtain ⟨a,c,h⟩:=Row.form (Row.Z6 Nr.o);exact ⟨a,c,by rw [h,UM];rfl⟩
      subst hx
      refine Z_.Y_ hK _ _ ?_ (fun Cw=>?_)
      ·(try dsimp only)
       exact HO.o.facts
      clear hK K
      try simp only [Z_.pt]
      refine YR 18 (h:=fun K hK=>?_)
      refine Xj Zr (.tmp 52) (.tmp 55) 72 Zr w.heap.size Xd (.slice ca cs.length cc) cs.length (WG cs) Zr HO.o.cur (((wr.drew.alloc (.cells #[.int .i64 sw] 3))).heap.size) 1 1 [.int .i64 sc] Zr (row_one Tc.o) rfl N6 Zd Zo Zo HO.o.Zj.size ?_
      intro v18 PS rM Gc Gk
      have Ns:Hid (PS.ownsRow w 3 1 v18 (cs++[sc]).length (WG (cs++[sc]))):=si
      have HO:=Zh (HO.o.Ek Gc.o Ns.o Gk.o)
      obtain ⟨ya,yc,hx⟩:∃ a c,v18 = .slice a (cs.length+1) c:=by obtain ⟨a,c,h⟩:=Row.form (Row.Z6 Ns.o);exact ⟨a,c,by rw [h,UM];rfl⟩
      subst hx
      refine Z_.Y_ hK _ _ ?_ (fun Cx=>?_)
      ·(try dsimp only)
       exact HO.o.facts
      clear hK K
      try simp only [Z_.pt]
      refine YP 25 (h:=YP 26 (h:=YK 27 (h:=YP 28 (h:=?_))))
      refine YR 29 (h:=fun K hK=>?_)
      refine Yo Zr UX (.tmp 66) Zr (.bool sm) Zr Zr ?_
      have Gl:Hid ((PS.alloc (.cells #[.bool sm] 4)).heap[PS.heap.size]?=some (.cells #[.bool sm] 4 (0,0))):=Z7 PS _
      have Vb:=Z' PS (.cells #[.bool sm] 4)
      have HO:=Zh (HO.o.below Vb)
      clear Vb
      refine Z_.Y_ hK _ _ ?_ (fun Cy=>?_)
      ·(try dsimp only)
       exact HO.o.facts
      clear hK K
      try simp only [Z_.pt]
      refine YR 30 (h:=fun K hK=>?_)
      refine Xj Zr (.tmp 60) (.tmp 67) 122 Zr w.heap.size UX (.slice qa qs.length qc) qs.length (U_ qs) Zr HO.o.quiet ((PS).heap.size) 1 1 [.bool sm] Zr (row_one Gl.o) rfl N6 Zd Zo Zo HO.o.Zj.size ?_
      intro v30 qQ rN zo nu
      have F_:Hid (qQ.ownsRow w 4 1 v30 (qs++[sm]).length (U_ (qs++[sm]))):=sf
      exact Yx77
     refine Z_.VX (i:=17) rfl (fun K hK=>?_) Z_.Q_
     refine Yo Zr Xd (.tmp 54) Zr (.int .i64 sc) Zr Zr ?_
     have Tc:Hid ((wr.drew.alloc (.cells #[.int .i64 sc] 3)).heap[wr.drew.heap.size]?=some (.cells #[.int .i64 sc] 3 (0,0))):=Z7 wr.drew _
     have vS:Hid (∀ i,(Value.slice wa ws.length wc).ownBlock=some i→i<wr.drew.heap.size):=fun i hi=>Sw HO.o.want hi
     have Vb:=Z' wr.drew (.cells #[.int .i64 sc] 3)
     have HO:=Zh (HO.o.below Vb)
     clear Vb
     refine Z_.Y_ hK _ _ ?_ (fun kE=>?_)
     ·(try dsimp only)
      exact HO.o.facts
     clear hK K
     try simp only [Z_.pt]
     refine YR 9 (h:=fun K hK=>?_)
     refine Yo Zr Xd (.tmp 46) Zr (.int .i64 sw) Zr Zr ?_
     have vU:Hid (((wr.drew.alloc (.cells #[.int .i64 sc] 3)).alloc (.cells #[.int .i64 sw] 3)).heap[(wr.drew.alloc (.cells #[.int .i64 sc] 3)).heap.size]?=some (.cells #[.int .i64 sw] 3 (0,0))):=Z7 (wr.drew.alloc (.cells #[.int .i64 sc] 3)) _
     have Vb:=Z' (wr.drew.alloc (.cells #[.int .i64 sc] 3)) (.cells #[.int .i64 sw] 3)
     have Tc:=Zh ((Vb.block _ (ZV Tc.o)).trans Tc.o)
     have HO:=Zh (HO.o.below Vb)
     clear Vb
     refine Z_.Y_ hK _ _ ?_ (fun kF=>?_)
     ·(try dsimp only)
      exact HO.o.facts
     clear hK K
     try simp only [Z_.pt]
     refine YR 10 (h:=fun K hK=>?_)
     refine Xj Zr (.tmp 44) (.tmp 47) 72 Zr w.heap.size Xd (.slice wa ws.length wc) ws.length (WG ws) Zr HO.o.want (((wr.drew.alloc (.cells #[.int .i64 sc] 3))).heap.size) 1 1 [.int .i64 sw] Zr (row_one vU.o) rfl N6 Zd Zo Zo HO.o.Zj.size ?_
     intro v10 SA rL L8 J8
     have Nr:Hid (SA.ownsRow w 3 1 v10 (ws++[sw]).length (WG (ws++[sw]))):=sj
     have Tc:=Zh ((L8.o.block _ (ZV Tc.o) (fun e=>absurd (vS.o _ e.symm) (Nat.lt_irrefl _))).trans Tc.o)
     have HO:=Zh (HO.o.El L8.o Nr.o J8.o)
     obtain ⟨xa,xc,hx⟩:∃ a c,v10 = .slice a (ws.length+1) c:=by obtain ⟨a,c,h⟩:=Row.form (Row.Z6 Nr.o);exact ⟨a,c,by rw [h,UM];rfl⟩
     subst hx
     refine Z_.Y_ hK _ _ ?_ (fun kG=>?_)
     ·(try dsimp only)
      exact HO.o.facts
     clear hK K
     try simp only [Z_.pt]
     refine YR 18 (h:=fun K hK=>?_)
     refine Xj Zr (.tmp 52) (.tmp 55) 72 Zr w.heap.size Xd (.slice ca cs.length cc) cs.length (WG cs) Zr HO.o.cur ((wr.drew).heap.size) 1 1 [.int .i64 sc] Zr (row_one Tc.o) rfl N6 Zd Zo Zo HO.o.Zj.size ?_
     intro v18 PS rM Gc Gk
     have Ns:Hid (PS.ownsRow w 3 1 v18 (cs++[sc]).length (WG (cs++[sc]))):=si
     have HO:=Zh (HO.o.Ek Gc.o Ns.o Gk.o)
     obtain ⟨ya,yc,hx⟩:∃ a c,v18 = .slice a (cs.length+1) c:=by obtain ⟨a,c,h⟩:=Row.form (Row.Z6 Ns.o);exact ⟨a,c,by rw [h,UM];rfl⟩
     subst hx
     refine Z_.Y_ hK _ _ ?_ (fun kH=>?_)
     ·(try dsimp only)
      exact HO.o.facts
     clear hK K
     try simp only [Z_.pt]
     refine YP 25 (h:=YP 26 (h:=YK 27 (h:=YP 28 (h:=?_))))
     refine YR 29 (h:=fun K hK=>?_)
     refine Yo Zr UX (.tmp 66) Zr (.bool sm) Zr Zr ?_
     have Gl:Hid ((PS.alloc (.cells #[.bool sm] 4)).heap[PS.heap.size]?=some (.cells #[.bool sm] 4 (0,0))):=Z7 PS _
     have Vb:=Z' PS (.cells #[.bool sm] 4)
     have HO:=Zh (HO.o.below Vb)
     clear Vb
     refine Z_.Y_ hK _ _ ?_ (fun kI=>?_)
     ·(try dsimp only)
      exact HO.o.facts
     clear hK K
     try simp only [Z_.pt]
     refine YR 30 (h:=fun K hK=>?_)
     refine Xj Zr (.tmp 60) (.tmp 67) 122 Zr w.heap.size UX (.slice qa qs.length qc) qs.length (U_ qs) Zr HO.o.quiet ((PS).heap.size) 1 1 [.bool sm] Zr (row_one Gl.o) rfl N6 Zd Zo Zo HO.o.Zj.size ?_
     intro v30 qQ rN zo nu
     have F_:Hid (qQ.ownsRow w 4 1 v30 (qs++[sm]).length (U_ (qs++[sm]))):=sf
     exact Yx76
    | true=>
     refine Sd ?_
     refine Z_.Zu (d:=33) (S:=(fun w'=>w'.cell? ⟨V,5,none⟩=some (.slice wa ws.length wc)∧w'.cell? ⟨V,6,none⟩=some (.slice ca cs.length cc)∧w'.cell? ⟨V,7,none⟩=some (.slice qa qs.length qc)∧w'.cell? ⟨T,0,none⟩=some (.int .i64 sw)∧w'.cell? ⟨T,1,none⟩=some (.int .i64 sc)∧w'.cell? ⟨T,2,none⟩=some (.bool true)∧w'.cell? ⟨T,3,none⟩=some (.bool sm))) ZB ?_ (fun X_=>?_)
     ·(try dsimp only)
      exact HO.o.facts
     refine YP 0 (h:=YP 1 (h:=YP 2 (h:=YP 3 (h:=YP 4 (h:=YP 5 (h:=YP 7 (h:=YP 11 (h:=YP 12 (h:=YP 13 (h:=YP 15 (h:=YP 19 (h:=YP 20 (h:=YP 21 (h:=YP 23 (h:=YK 6 (h:=YK 8 (h:=YK 14 (h:=YK 16 (h:=YK 22 (h:=YK 24 (h:=?_)))))))))))))))))))))
     refine Z_.TR (rs:=[9,17]) ZB Zi ?_
     refine Z_.VX (i:=9) rfl (fun K hK=>?_) ?_
     ·skip
      refine Yo Zr Xd (.tmp 46) Zr (.int .i64 sw) Zr Zr ?_
      have vU:Hid ((wr.drew.alloc (.cells #[.int .i64 sw] 3)).heap[wr.drew.heap.size]?=some (.cells #[.int .i64 sw] 3 (0,0))):=Z7 wr.drew _
      have Vb:=Z' wr.drew (.cells #[.int .i64 sw] 3)
      have HO:=Zh (HO.o.below Vb)
      clear Vb
      refine Z_.Y_ hK _ _ ?_ (fun XC=>?_)
      ·(try dsimp only)
       exact HO.o.facts
      clear hK K
      try simp only [Z_.pt]
      refine Z_.TR (rs:=[10,17]) ZB Zi ?_
      refine Z_.VX (i:=10) rfl (fun K hK=>?_) ?_
      ·skip
       refine Xj Zr (.tmp 44) (.tmp 47) 72 Zr w.heap.size Xd (.slice wa ws.length wc) ws.length (WG ws) Zr HO.o.want ((wr.drew).heap.size) 1 1 [.int .i64 sw] Zr (row_one vU.o) rfl N6 Zd Zo Zo HO.o.Zj.size ?_
       intro v10 SA rL L8 J8
       have Nr:Hid (SA.ownsRow w 3 1 v10 (ws++[sw]).length (WG (ws++[sw]))):=sj
       have HO:=Zh (HO.o.El L8.o Nr.o J8.o)
       obtain ⟨xa,xc,hx⟩:∃ a c,v10 = .slice a (ws.length+1) c:=by obtain ⟨a,c,h⟩:=Row.form (Row.Z6 Nr.o);exact ⟨a,c,by rw [h,UM];rfl⟩
       subst hx
       refine Z_.Y_ hK _ _ ?_ (fun VE=>?_)
       ·(try dsimp only)
        exact HO.o.facts
       clear hK K
       try simp only [Z_.pt]
       refine YR 17 (h:=fun K hK=>?_)
       refine Yo Zr Xd (.tmp 54) Zr (.int .i64 sc) Zr Zr ?_
       have Tc:Hid ((SA.alloc (.cells #[.int .i64 sc] 3)).heap[SA.heap.size]?=some (.cells #[.int .i64 sc] 3 (0,0))):=Z7 SA _
       have Vb:=Z' SA (.cells #[.int .i64 sc] 3)
       have HO:=Zh (HO.o.below Vb)
       clear Vb
       refine Z_.Y_ hK _ _ ?_ (fun OD=>?_)
       ·(try dsimp only)
        exact HO.o.facts
       clear hK K
       try simp only [Z_.pt]
       refine YR 18 (h:=fun K hK=>?_)
       refine Xj Zr (.tmp 52) (.tmp 55) 72 Zr w.heap.size Xd (.slice ca cs.length cc) cs.length (WG cs) Zr HO.o.cur ((SA).heap.size) 1 1 [.int .i64 sc] Zr (row_one Tc.o) rfl N6 Zd Zo Zo HO.o.Zj.size ?_
       intro v18 PS rM Gc Gk
       have Ns:Hid (PS.ownsRow w 3 1 v18 (cs++[sc]).length (WG (cs++[sc]))):=si
       have HO:=Zh (HO.o.Ek Gc.o Ns.o Gk.o)
       obtain ⟨ya,yc,hx⟩:∃ a c,v18 = .slice a (cs.length+1) c:=by obtain ⟨a,c,h⟩:=Row.form (Row.Z6 Ns.o);exact ⟨a,c,by rw [h,UM];rfl⟩
       subst hx
       refine Z_.Y_ hK _ _ ?_ (fun GP=>?_)
       ·(try dsimp only)
        exact HO.o.facts
       clear hK K
       try simp only [Z_.pt]
       refine YP 25 (h:=YT 26 (h:=YT 27 (h:=YP 28 (h:=?_))))
       refine YR 29 (h:=fun K hK=>?_)
       refine Yo Zr UX (.tmp 66) Zr (.bool true) Zr Zr ?_
       have Gl:Hid ((PS.alloc (.cells #[.bool true] 4)).heap[PS.heap.size]?=some (.cells #[.bool true] 4 (0,0))):=Z7 PS _
       have Vb:=Z' PS (.cells #[.bool true] 4)
       have HO:=Zh (HO.o.below Vb)
       clear Vb
       refine Z_.Y_ hK _ _ ?_ (fun GQ=>?_)
       ·(try dsimp only)
        exact HO.o.facts
       clear hK K
       try simp only [Z_.pt]
       refine YR 30 (h:=fun K hK=>?_)
       refine Xj Zr (.tmp 60) (.tmp 67) 122 Zr w.heap.size UX (.slice qa qs.length qc) qs.length (U_ qs) Zr HO.o.quiet ((PS).heap.size) 1 1 [.bool true] Zr (row_one Gl.o) rfl N6 Zd Zo Zo HO.o.Zj.size ?_
       intro v30 qQ rN zo nu
       have F_:Hid (qQ.ownsRow w 4 1 v30 (qs++[true]).length (U_ (qs++[true]))):=sf
       exact Yx78
      refine Z_.VX (i:=17) rfl (fun K hK=>?_) Z_.Q_
      refine Yo Zr Xd (.tmp 54) Zr (.int .i64 sc) Zr Zr ?_
      have Tc:Hid (((wr.drew.alloc (.cells #[.int .i64 sw] 3)).alloc (.cells #[.int .i64 sc] 3)).heap[(wr.drew.alloc (.cells #[.int .i64 sw] 3)).heap.size]?=some (.cells #[.int .i64 sc] 3 (0,0))):=Z7 (wr.drew.alloc (.cells #[.int .i64 sw] 3)) _
      have vS:Hid (∀ i,(Value.slice wa ws.length wc).ownBlock=some i→i<(wr.drew.alloc (.cells #[.int .i64 sw] 3)).heap.size):=fun i hi=>Sw HO.o.want hi
      have Vb:=Z' (wr.drew.alloc (.cells #[.int .i64 sw] 3)) (.cells #[.int .i64 sc] 3)
      have vU:=Zh ((Vb.block _ (ZV vU.o)).trans vU.o)
      have HO:=Zh (HO.o.below Vb)
      clear Vb
      refine Z_.Y_ hK _ _ ?_ (fun Cv=>?_)
      ·(try dsimp only)
       exact HO.o.facts
      clear hK K
      try simp only [Z_.pt]
      refine YR 10 (h:=fun K hK=>?_)
      refine Xj Zr (.tmp 44) (.tmp 47) 72 Zr w.heap.size Xd (.slice wa ws.length wc) ws.length (WG ws) Zr HO.o.want ((wr.drew).heap.size) 1 1 [.int .i64 sw] Zr (row_one vU.o) rfl N6 Zd Zo Zo HO.o.Zj.size ?_
      intro v10 SA rL L8 J8
      have Nr:Hid (SA.ownsRow w 3 1 v10 (ws++[sw]).length (WG (ws++[sw]))):=sj
      have Tc:=Zh ((L8.o.block _ (ZV Tc.o) (fun e=>absurd (vS.o _ e.symm) (Nat.lt_irrefl _))).trans Tc.o)
      have HO:=Zh (HO.o.El L8.o Nr.o J8.o)
      obtain ⟨xa,xc,hx⟩:∃ a c,v10 = .slice a (ws.length+1) c:=by obtain ⟨a,c,h⟩:=Row.form (Row.Z6 Nr.o);exact ⟨a,c,by rw [h,UM];rfl⟩
      subst hx
      refine Z_.Y_ hK _ _ ?_ (fun Cw=>?_)
      ·(try dsimp only)
       exact HO.o.facts
      clear hK K
      try simp only [Z_.pt]
      refine YR 18 (h:=fun K hK=>?_)
      refine Xj Zr (.tmp 52) (.tmp 55) 72 Zr w.heap.size Xd (.slice ca cs.length cc) cs.length (WG cs) Zr HO.o.cur (((wr.drew.alloc (.cells #[.int .i64 sw] 3))).heap.size) 1 1 [.int .i64 sc] Zr (row_one Tc.o) rfl N6 Zd Zo Zo HO.o.Zj.size ?_
      intro v18 PS rM Gc Gk
      have Ns:Hid (PS.ownsRow w 3 1 v18 (cs++[sc]).length (WG (cs++[sc]))):=si
      have HO:=Zh (HO.o.Ek Gc.o Ns.o Gk.o)
      obtain ⟨ya,yc,hx⟩:∃ a c,v18 = .slice a (cs.length+1) c:=by obtain ⟨a,c,h⟩:=Row.form (Row.Z6 Ns.o);exact ⟨a,c,by rw [h,UM];rfl⟩
      subst hx
      refine Z_.Y_ hK _ _ ?_ (fun Cx=>?_)
      ·(try dsimp only)
       exact HO.o.facts
      clear hK K
      try simp only [Z_.pt]
      refine YP 25 (h:=YT 26 (h:=YT 27 (h:=YP 28 (h:=?_))))
      refine YR 29 (h:=fun K hK=>?_)
      refine Yo Zr UX (.tmp 66) Zr (.bool true) Zr Zr ?_
      have Gl:Hid ((PS.alloc (.cells #[.bool true] 4)).heap[PS.heap.size]?=some (.cells #[.bool true] 4 (0,0))):=Z7 PS _
      have Vb:=Z' PS (.cells #[.bool true] 4)
      have HO:=Zh (HO.o.below Vb)
      clear Vb
      refine Z_.Y_ hK _ _ ?_ (fun Cy=>?_)
      ·(try dsimp only)
       exact HO.o.facts
      clear hK K
      try simp only [Z_.pt]
      refine YR 30 (h:=fun K hK=>?_)
      refine Xj Zr (.tmp 60) (.tmp 67) 122 Zr w.heap.size UX (.slice qa qs.length qc) qs.length (U_ qs) Zr HO.o.quiet ((PS).heap.size) 1 1 [.bool true] Zr (row_one Gl.o) rfl N6 Zd Zo Zo HO.o.Zj.size ?_
      intro v30 qQ rN zo nu
      have F_:Hid (qQ.ownsRow w 4 1 v30 (qs++[true]).length (U_ (qs++[true]))):=sf
      exact Yx77
     refine Z_.VX (i:=17) rfl (fun K hK=>?_) Z_.Q_
     refine Yo Zr Xd (.tmp 54) Zr (.int .i64 sc) Zr Zr ?_
     have Tc:Hid ((wr.drew.alloc (.cells #[.int .i64 sc] 3)).heap[wr.drew.heap.size]?=some (.cells #[.int .i64 sc] 3 (0,0))):=Z7 wr.drew _
     have vS:Hid (∀ i,(Value.slice wa ws.length wc).ownBlock=some i→i<wr.drew.heap.size):=fun i hi=>Sw HO.o.want hi
     have Vb:=Z' wr.drew (.cells #[.int .i64 sc] 3)
     have HO:=Zh (HO.o.below Vb)
     clear Vb
     refine Z_.Y_ hK _ _ ?_ (fun kE=>?_)
     ·(try dsimp only)
      exact HO.o.facts
     clear hK K
     try simp only [Z_.pt]
     refine YR 9 (h:=fun K hK=>?_)
     refine Yo Zr Xd (.tmp 46) Zr (.int .i64 sw) Zr Zr ?_
     have vU:Hid (((wr.drew.alloc (.cells #[.int .i64 sc] 3)).alloc (.cells #[.int .i64 sw] 3)).heap[(wr.drew.alloc (.cells #[.int .i64 sc] 3)).heap.size]?=some (.cells #[.int .i64 sw] 3 (0,0))):=Z7 (wr.drew.alloc (.cells #[.int .i64 sc] 3)) _
     have Vb:=Z' (wr.drew.alloc (.cells #[.int .i64 sc] 3)) (.cells #[.int .i64 sw] 3)
     have Tc:=Zh ((Vb.block _ (ZV Tc.o)).trans Tc.o)
     have HO:=Zh (HO.o.below Vb)
     clear Vb
     refine Z_.Y_ hK _ _ ?_ (fun kF=>?_)
     ·(try dsimp only)
      exact HO.o.facts
     clear hK K
     try simp only [Z_.pt]
     refine YR 10 (h:=fun K hK=>?_)
     refine Xj Zr (.tmp 44) (.tmp 47) 72 Zr w.heap.size Xd (.slice wa ws.length wc) ws.length (WG ws) Zr HO.o.want (((wr.drew.alloc (.cells #[.int .i64 sc] 3))).heap.size) 1 1 [.int .i64 sw] Zr (row_one vU.o) rfl N6 Zd Zo Zo HO.o.Zj.size ?_
     intro v10 SA rL L8 J8
     have Nr:Hid (SA.ownsRow w 3 1 v10 (ws++[sw]).length (WG (ws++[sw]))):=sj
     have Tc:=Zh ((L8.o.block _ (ZV Tc.o) (fun e=>absurd (vS.o _ e.symm) (Nat.lt_irrefl _))).trans Tc.o)
     have HO:=Zh (HO.o.El L8.o Nr.o J8.o)
     obtain ⟨xa,xc,hx⟩:∃ a c,v10 = .slice a (ws.length+1) c:=by obtain ⟨a,c,h⟩:=Row.form (Row.Z6 Nr.o);exact ⟨a,c,by rw [h,UM];rfl⟩
     subst hx
     refine Z_.Y_ hK _ _ ?_ (fun kG=>?_)
     ·(try dsimp only)
      exact HO.o.facts
     clear hK K
     try simp only [Z_.pt]
     refine YR 18 (h:=fun K hK=>?_)
     refine Xj Zr (.tmp 52) (.tmp 55) 72 Zr w.heap.size Xd (.slice ca cs.length cc) cs.length (WG cs) Zr HO.o.cur ((wr.drew).heap.size) 1 1 [.int .i64 sc] Zr (row_one Tc.o) rfl N6 Zd Zo Zo HO.o.Zj.size ?_
     intro v18 PS rM Gc Gk
     have Ns:Hid (PS.ownsRow w 3 1 v18 (cs++[sc]).length (WG (cs++[sc]))):=si
     have HO:=Zh (HO.o.Ek Gc.o Ns.o Gk.o)
     obtain ⟨ya,yc,hx⟩:∃ a c,v18 = .slice a (cs.length+1) c:=by obtain ⟨a,c,h⟩:=Row.form (Row.Z6 Ns.o);exact ⟨a,c,by rw [h,UM];rfl⟩
     subst hx
     refine Z_.Y_ hK _ _ ?_ (fun kH=>?_)
     ·(try dsimp only)
      exact HO.o.facts
     clear hK K
     try simp only [Z_.pt]
     refine YP 25 (h:=YT 26 (h:=YT 27 (h:=YP 28 (h:=?_))))
     refine YR 29 (h:=fun K hK=>?_)
     refine Yo Zr UX (.tmp 66) Zr (.bool true) Zr Zr ?_
     have Gl:Hid ((PS.alloc (.cells #[.bool true] 4)).heap[PS.heap.size]?=some (.cells #[.bool true] 4 (0,0))):=Z7 PS _
     have Vb:=Z' PS (.cells #[.bool true] 4)
     have HO:=Zh (HO.o.below Vb)
     clear Vb
     refine Z_.Y_ hK _ _ ?_ (fun kI=>?_)
     ·(try dsimp only)
      exact HO.o.facts
     clear hK K
     try simp only [Z_.pt]
     refine YR 30 (h:=fun K hK=>?_)
     refine Xj Zr (.tmp 60) (.tmp 67) 122 Zr w.heap.size UX (.slice qa qs.length qc) qs.length (U_ qs) Zr HO.o.quiet ((PS).heap.size) 1 1 [.bool true] Zr (row_one Gl.o) rfl N6 Zd Zo Zo HO.o.Zj.size ?_
     intro v30 qQ rN zo nu
     have F_:Hid (qQ.ownsRow w 4 1 v30 (qs++[true]).length (U_ (qs++[true]))):=sf
     exact Yx76
   case rest=>
    obtain ⟨w9,rfl⟩:∃ W:World,W=wc:=⟨_,rfl⟩
    obtain ⟨wv,cv,qv,ho⟩:=hcut
    clear HO
    have HO:=Zh ho
    clear ho
    have HR:Hid (Og w9 wv cv qv (WK L (⟨p,sr,(nb:Int),f⟩:Zq) (j+1))):=HO.o.rows (by rw [Uv,N7,HWS.o,←yN.o];rfl) (by rw [Uv,N7,lU.o,←yN.o];rfl) (by rw [Uv,N7,DX.o,←yN.o];rfl)
    have IM:Hid (VB w9 V k _ _ _ _ L (⟨p,sr,(nb:Int),f⟩:Zq) wv cv qv):=VB.of zh.o HO.o.Zj HO.o.view
    have b0:w9.cell? ⟨k,0,none⟩=some (.slice (some ⟨g,o,none⟩) L.length c):=by rw [←bU.o,cell_of IM.o.book 0];rfl
    have EW:Hid (ws++[sw]=(WK L (⟨p,sr,(nb:Int),f⟩:Zq) (j+1)).map VS.want):=by show _=_;rw [Uv,N7,HWS.o,←yN.o];rfl
    have EC:Hid (cs++[sc]=(WK L (⟨p,sr,(nb:Int),f⟩:Zq) (j+1)).map VS.cur):=by show _=_;rw [Uv,N7,lU.o,←yN.o];rfl
    have EQ:Hid (qs++[sp || sm]=(WK L (⟨p,sr,(nb:Int),f⟩:Zq) (j+1)).map VS.quiet):=by show _=_;rw [Uv,N7,DX.o,←yN.o];rfl
    by_cases S4:j<L.length
    ·have CN:=Zh (se IM.o S4 (HR.o.at (OY L (⟨p,sr,(nb:Int),f⟩:Zq) (Nat.lt_succ_self j))))
     have lY:Hid (AP L (⟨p,sr,(nb:Int),f⟩:Zq) (Wu L (⟨p,sr,(nb:Int),f⟩:Zq) j) j=Wu L (⟨p,sr,(nb:Int),f⟩:Zq) (j+1)):=rfl
     rw [←yN.o] at CN lY
     rw [lY.o] at CN
     have kT:w9.heap[T]?=some (.cells (Qf sw sc sp sm) 202 (0,0)):=HO.o.st
     have Al:(j:Int)<(L.length:Int):=Ou.2 S4
     generalize hS2:Wu L (⟨p,sr,(nb:Int),f⟩:Zq) (j+1)=s2 at *
     have QO:=Zh hS2
     clear hS2 lY yN HS HR IM
     obtain ⟨tw,tc,tp,tm⟩:=s2
     dsimp only [XO] at CN
     go_wp2_with (first|(with_reducible refine Y8 202 (.tmp 6) rfl ?_;refine Y9 rfl 202 (.tmp 6) rfl T rfl 202 (Qf sw sc sp sm) (0,0) _ kT Tryz.underlying202 rfl ZB ?_)|(go_at_call 114;refine CN.o.mono ?_;rintro e SA ⟨rfl,Ny⟩;have NV:=Zh (HO.o.below Ny);have kT2:SA.heap[T]?=some (.cells (Qf sw sc sp sm) 202 (0,0)):=NV.o.st;clear kT b0 Ny)|(with_reducible refine ZU 202 (.tmp 6) (.tmp 85) rfl ?_;refine ZW rfl 202 (.tmp 6) (.tmp 85) rfl rfl T (Qf tw tc tp tm) rfl rfl 202 (Qf sw sc sp sm) kT2 ZB ZB ZB ?_))
     go_roundw
     case rel=>exact ⟨j+1,⟨tw,tc,tp,tm⟩,wv,cv,qv,Zo,Zn,by rw [Nat.min_eq_left Zo,QO.o],by rw [←EW.o,←EC.o,←EQ.o];exact NV.o.setT ⟨tw,tc,tp,tm⟩⟩
     case measure=>simp [intOf];omega
    ·have MM:j=L.length:=by omega
     have dl:decide ((j:Int)<(L.length:Int))=false:=WB Zo
     have dl2:decide (j<L.length)=false:=WB Zo
     clear S4
     have HJ:=Zh MM
     clear MM
     go_wp2_with fail
     go_roundw
     case rel=>exact ⟨j+1,⟨sw,sc,sp,sm⟩,wv,cv,qv,Zo,Zn,by rw [yN.o,HJ.o,Nat.min_eq_right Zo],by rw [←EW.o,←EC.o,←EQ.o];exact HO.o⟩
     case measure=>simp [intOf];omega
  ·have MM:j=L.length+1:=by omega
   have dj:decide ((j:Int)<(L.length:Int)+1)=false:=WB Zo
   have HJ:=Zh MM
   clear MM dZ
   go_wp2_with fail
   go_ret
   exact ⟨⟨V,wv,cv,qv,rfl,VB.of zh.o HO.o.Zj HO.o.view,HO.o.rows (by rw [HJ.o]) (by rw [HJ.o]) (by rw [HJ.o])⟩,HO.o.Zj⟩
end Go.Proofs.By
