/- Several texts in one: The walk of book.View: what is so of a life at each place. -/
import Derived.Test.YtpdjhlcbcomdkaaGreatDoorV01
import Derived.Test.YtpdjhlcbcomdkaaGreatDoorV02
import Derived.Test.YtpdjhlcbcomdkaaGreatDoorV19
set_option linter.unusedVariables false
set_option linter.unusedSimpArgs false
set_option linter.unusedSimpArgs false
namespace Go.Proofs.By
open Go.RowKit Go.Proofs.Heap Go.Proofs
open Go.Proofs.Rm (below_drewN elemInt own_le)
theorem elemBool:Elem Tryz.prog 122 4 1 1:=⟨Tryz.underlying122,⟨.bool false,by kernel_rfl,rfl⟩,by decide⟩
structure BkF (w:World) (k:Nat) (ov av mv lv:Value) (L:List OpB) (LS:List Life):Prop where
 book:w.heap[k]?=some (.cells #[ov,av,mv,lv] 116 (0,0))
 ops:OpBsR w ov L
 adm:Row w 35 av L.length ((admsTo L L.length).flatMap admC4)
 med:∃ M:List MedV,Row w 97 mv M.length (M.flatMap medvCells)∧(∀ y∈M,PktR w y.p y.cv y.ev y.pv)∧M.map (fun y=>(y.p,y.d))=medsTo L L.length
 liv:Row w 59 lv LS.length (LS.flatMap lifeCells)
theorem BkF.below {w w':World} {k:Nat} {ov av mv lv:Value} {L:List OpB} {LS:List Life} (h:BkF w k ov av mv lv L LS) (hb:Below w.heap.size w w'):BkF w' k ov av mv lv L LS:=by
 obtain ⟨M,m1,m0,m2⟩:=h.med
 exact ⟨(hb.block _ (hp_lt h.book)).trans h.book,h.ops.below hb,Row.below h.adm hb,⟨M,Row.below m1 hb,fun y hy=>(m0 y hy).below hb,m2⟩,Row.below h.liv hb⟩
theorem VB.of {w w':World} {V k:Nat} {ov av mv lv:Value} {L:List OpB} {LS:List Life} {x:Life} {wv cv qv:Value} (h:BkF w k ov av mv lv L LS) (hb:Below w.heap.size w w') (hv:w'.heap[V]?=some (.cells #[.pointer (some ⟨k,0,none⟩),.int .i64 x.peer,.int .i64 x.source,.int .i64 x.bgn,.int .i64 x.fin,wv,cv,qv] 164 (0,0))):VB w' V k ov av mv lv L x wv cv qv:=
 ⟨(h.below hb).book,(h.below hb).ops,(h.below hb).adm,(h.below hb).med,hv⟩
structure VO (w w':World) (V T k:Nat) (x:Life) (s:VS) (w0 c0 q0 wv:Value) (ws:List Int) (cv:Value) (cs:List Int) (qv:Value) (qs:List Bool):Prop where
 bel:Below w.heap.size w w'
 view:w'.heap[V]?=some (.cells #[.pointer (some ⟨k,0,none⟩),.int .i64 x.peer,.int .i64 x.source,.int .i64 x.bgn,.int .i64 x.fin,w0,c0,q0] 164 (0,0))
 st:w'.heap[T]?=some (.cells (stCells s).toArray 202 (0,0))
 want:w'.ownsRow w.heap.size 3 1 wv ws.length (intsV ws)
 cur:w'.ownsRow w.heap.size 3 1 cv cs.length (intsV cs)
 quiet:w'.ownsRow w.heap.size 4 1 qv qs.length (boolsV qs)
 ne:∀ i,wv.ownBlock=some i→cv.ownBlock≠some i
 ge:w.heap.size≤V∧w.heap.size≤T
theorem below_alloc' (w:World):Below w.heap.size w w.drew:=(Below.refl _ _).drew
theorem row_one {w:World} {B:Nat} {e:TypeId} {v:Value} (h:w.heap[B]?=some (.cells #[v] e (0,0))):Row w e (.slice (some ⟨B,0,none⟩) 1 1) 1 [v]:=
 ⟨_,_,rfl,Nat.le_refl _,by unfold maxLen;omega,(fun h=>by cases h),Or.inr ⟨B,0,_,_,rfl,h,fun j hj=>by
  have hj:j<1:=hj
  have:j=0:=by omega
  subst this
  rfl⟩⟩
section
variable {w w1 w2:World} {V T k:Nat} {x:Life} {s:VS} {w0 c0 q0 wv:Value} {ws:List Int} {cv:Value} {cs:List Int} {qv:Value} {qs:List Bool}
theorem VO.below (h:VO w w1 V T k x s w0 c0 q0 wv ws cv cs qv qs) (hb:Below w1.heap.size w1 w2):VO w w2 V T k x s w0 c0 q0 wv ws cv cs qv qs:=
 ⟨h.bel.trans (hb.mono h.bel.size),(hb.block _ (hp_lt h.view)).trans h.view,(hb.block _ (hp_lt h.st)).trans h.st,owns_bel h.want hb,owns_bel h.cur hb,owns_bel h.quiet hb,h.ne,h.ge⟩
theorem VO.facts (h:VO w w1 V T k x s w0 c0 q0 wv ws cv cs qv qs):w1.cell? ⟨V,5,none⟩=some w0∧w1.cell? ⟨V,6,none⟩=some c0∧w1.cell? ⟨V,7,none⟩=some q0∧w1.cell? ⟨T,0,none⟩=some (.int .i64 s.want)∧w1.cell? ⟨T,1,none⟩=some (.int .i64 s.cur)∧w1.cell? ⟨T,2,none⟩=some (.bool s.paused)∧w1.cell? ⟨T,3,none⟩=some (.bool s.muted):=
 ⟨by rw [cell_of h.view 5];rfl,by rw [cell_of h.view 6];rfl,by rw [cell_of h.view 7];rfl,by rw [cell_of h.st 0];rfl,by rw [cell_of h.st 1];rfl,by rw [cell_of h.st 2];rfl,by rw [cell_of h.st 3];rfl⟩
theorem owns_ltV {w:World} {base:Nat} {e:TypeId} {size:Nat} {v:Value} {n:Nat} {xs:List Value} (h:w.ownsRow base e size v n xs) {i:Nat} (hi:v.ownBlock=some i):i<w.heap.size:=by
 obtain ⟨cu,hc⟩:=owns_blk h i hi
 exact hp_lt hc
theorem VO.growW (h:VO w w1 V T k x s w0 c0 q0 wv ws cv cs qv qs) (hg:w1.grownBy w2 wv.ownBlock) {wv':Value} {ws':List Int} (ho:w2.ownsRow w.heap.size 3 1 wv' ws'.length (intsV ws')) (hw:∀ i,wv'.ownBlock=some i→wv.ownBlock=some i∨i=w1.heap.size):VO w w2 V T k x s w0 c0 q0 wv' ws' cv cs qv qs:=
 ⟨((Fr.of_below NoB h.bel).grown hg h.bel.size (own_le h.want)).below,(hg.block _ (hp_lt h.view) (fun e=>owns_typ h.want (by decide) _ _ _ e.symm h.view)).trans h.view,(hg.block _ (hp_lt h.st) (fun e=>owns_typ h.want (by decide) _ _ _ e.symm h.st)).trans h.st,ho,
  owns_block h.cur (fun i hi=>hg.block i (owns_ltV h.cur hi) (fun e=>h.ne i e.symm hi)),owns_other h.quiet h.want (by decide) hg,
  fun i hi hc=>by rcases hw i hi with h1|h1;exact h.ne i h1 hc;have:=owns_ltV h.cur hc;omega,h.ge⟩
theorem VO.growC (h:VO w w1 V T k x s w0 c0 q0 wv ws cv cs qv qs) (hg:w1.grownBy w2 cv.ownBlock) {cv':Value} {cs':List Int} (ho:w2.ownsRow w.heap.size 3 1 cv' cs'.length (intsV cs')) (hw:∀ i,cv'.ownBlock=some i→cv.ownBlock=some i∨i=w1.heap.size):VO w w2 V T k x s w0 c0 q0 wv ws cv' cs' qv qs:=
 ⟨((Fr.of_below NoB h.bel).grown hg h.bel.size (own_le h.cur)).below,(hg.block _ (hp_lt h.view) (fun e=>owns_typ h.cur (by decide) _ _ _ e.symm h.view)).trans h.view,(hg.block _ (hp_lt h.st) (fun e=>owns_typ h.cur (by decide) _ _ _ e.symm h.st)).trans h.st,
  owns_block h.want (fun i hi=>hg.block i (owns_ltV h.want hi) (fun e=>h.ne i hi e.symm)),ho,owns_other h.quiet h.cur (by decide) hg,
  fun i hi hc=>by rcases hw i hc with h1|h1;exact h.ne i hi h1;have:=owns_ltV h.want hi;omega,h.ge⟩
theorem VO.growQ (h:VO w w1 V T k x s w0 c0 q0 wv ws cv cs qv qs) (hg:w1.grownBy w2 qv.ownBlock) {qv':Value} {qs':List Bool} (ho:w2.ownsRow w.heap.size 4 1 qv' qs'.length (boolsV qs')):VO w w2 V T k x s w0 c0 q0 wv ws cv cs qv' qs':=
 ⟨((Fr.of_below NoB h.bel).grown hg h.bel.size (own_le h.quiet)).below,(hg.block _ (hp_lt h.view) (fun e=>owns_typ h.quiet (by decide) _ _ _ e.symm h.view)).trans h.view,(hg.block _ (hp_lt h.st) (fun e=>owns_typ h.quiet (by decide) _ _ _ e.symm h.st)).trans h.st,
  owns_other h.want h.quiet (by decide) hg,owns_other h.cur h.quiet (by decide) hg,ho,h.ne,h.ge⟩
theorem VO.vt (h:VO w w1 V T k x s w0 c0 q0 wv ws cv cs qv qs):V≠T:=fun e=>by
 have h1:=h.view
 rw [e,h.st] at h1
 injection h1 with h1
 injection h1 with _ h1
 exact absurd h1 (by decide)
theorem VO.rest (h:VO w w1 V T k x s w0 c0 q0 wv ws cv cs qv qs) {b:Nat} (hb:b=V∨b=T) (he:∀ j,j≠b→w2.heap[j]?=w1.heap[j]?):w2.ownsRow w.heap.size 3 1 wv ws.length (intsV ws)∧w2.ownsRow w.heap.size 3 1 cv cs.length (intsV cs)∧w2.ownsRow w.heap.size 4 1 qv qs.length (boolsV qs):=by
 have hn:∀ {v:Value} {e:TypeId} {n:Nat} {xs:List Value},w1.ownsRow w.heap.size e 1 v n xs→e=3∨e=4→∀ i,v.ownBlock=some i→i≠b:=fun ho ht i hi hib=>by
  subst hib
  rcases hb with rfl|rfl
  ·exact owns_typ ho (by rcases ht with rfl|rfl <;> decide) _ _ _ hi h.view
  ·exact owns_typ ho (by rcases ht with rfl|rfl <;> decide) _ _ _ hi h.st
 exact ⟨owns_block h.want (fun i hi=>he i (hn h.want (Or.inl rfl) i hi)),owns_block h.cur (fun i hi=>he i (hn h.cur (Or.inl rfl) i hi)),owns_block h.quiet (fun i hi=>he i (hn h.quiet (Or.inr rfl) i hi))⟩
theorem VO.setV (h:VO w w1 V T k x s w0 c0 q0 wv ws cv cs qv qs) (o:Nat) (u w0' c0' q0':Value) (hs:[.pointer (some ⟨k,0,none⟩),.int .i64 x.peer,.int .i64 x.source,.int .i64 x.bgn,.int .i64 x.fin,w0,c0,q0].set o u=[.pointer (some ⟨k,0,none⟩),.int .i64 x.peer,.int .i64 x.source,.int .i64 x.bgn,.int .i64 x.fin,w0',c0',q0']):VO w (w1.setCell ⟨V,o,none⟩ u) V T k x s w0' c0' q0' wv ws cv cs qv qs:=by
 have h2:=hp_set h.view o u
 rw [List.setIfInBounds_toArray,hs] at h2
 obtain ⟨r1,r2,r3⟩:=h.rest (w2:=w1.setCell ⟨V,o,none⟩ u) (Or.inl rfl) (fun j hj=>RowKit.Below.heap_setCell w1 ⟨V,o,none⟩ u j hj)
 exact ⟨((Fr.of_below NoB h.bel).setCell (p:=⟨V,o,none⟩) (Or.inl h.ge.1) _).below,h2,(RowKit.Below.heap_setCell w1 ⟨V,o,none⟩ u T (fun e=>h.vt e.symm)).trans h.st,r1,r2,r3,h.ne,h.ge⟩
theorem VO.setT (h:VO w w1 V T k x s w0 c0 q0 wv ws cv cs qv qs) (s':VS):VO w (w1.setRow T (stCells s').toArray) V T k x s' w0 c0 q0 wv ws cv cs qv qs:=by
 obtain ⟨r1,r2,r3⟩:=h.rest (w2:=w1.setRow T (stCells s').toArray) (Or.inr rfl) (fun j hj=>setRow_other w1 T j _ hj)
 exact ⟨below_setRow h.bel h.ge.2 _,by rw [setRow_other w1 T V _ h.vt];exact h.view,setRow_heap _ _ _ _ _ _ h.st,r1,r2,r3,h.ne,h.ge⟩
theorem VO.rows (h:VO w w1 V T k x s w0 c0 q0 wv ws cv cs qv qs) {SS:List VS} (h1:ws=SS.map VS.want) (h2:cs=SS.map VS.cur) (h3:qs=SS.map VS.quiet):VRows w1 wv cv qv SS:=by
 subst h1;subst h2;subst h3
 have a:=Row.of_owns h.want
 have b:=Row.of_owns h.cur
 have c:=Row.of_owns h.quiet
 rw [List.length_map] at a b c
 exact ⟨a,b,c⟩
theorem intsV_snoc (l:List Int) (z:Int):intsV (l++[z])=intsV l++[.int .i64 z]:=by simp [intsV]
theorem boolsV_snoc (l:List Bool) (z:Bool):boolsV (l++[z])=boolsV l++[.bool z]:=by simp [boolsV]
end
set_option maxRecDepth 100000 in
set_option maxHeartbeats 4000000 in
theorem View_none {k:Nat} {ov av mv lv:Value} {L:List OpB} {LS:List Life} {w:World} (h:BkF w k ov av mv lv L LS) (x:Life) (hx:x ∉ LS) :
  Calls Tryz.prog 87 #[.pointer (some ⟨k,0,none⟩),.agg (lifeCells x).toArray] w fun e w'=>e = .returned (.pointer none)∧Below w.heap.size w w':=by
 have hdx:decide (x∈LS)=false:=decide_eq_false hx
 have HBK:=Lib.hid h
 have hlv:∃ a n c,lv = .slice a n c:=by obtain ⟨a,c,e⟩:=Row.form h.liv;exact ⟨a,_,c,e⟩
 obtain ⟨la,ln,lc,rfl⟩:=hlv
 have CC0:=Lib.hid (fun (w':World) (hb:Below w.heap.size w w')=>LContains_any _ LS x w' (Row.below h.liv hb))
 rw [hdx] at CC0
 clear hdx hx h
 obtain ⟨p,sr,b,f⟩:=x
 dsimp only [lifeCells] at CC0 ⊢
 have HZ0:Hid ((w.alloc (.cells #[.int .i64 p,.int .i64 sr,.int .i64 b,.int .i64 f] 59)).heap[w.heap.size]?=some (.cells #[.int .i64 p,.int .i64 sr,.int .i64 b,.int .i64 f] 59 (0,0))):=heap_new w _
 have HB0:Hid (Below w.heap.size w (w.alloc (.cells #[.int .i64 p,.int .i64 sr,.int .i64 b,.int .i64 f] 59))):=below_alloc w _
 go_enter Tryz.func87,Tryz.ntmps87
 go_upto_region 1 with fail
 generalize w.alloc (.cells #[.int .i64 p,.int .i64 sr,.int .i64 b,.int .i64 f] 59)=w1 at *
 have KEEP:Hid (∀ w',Below w1.heap.size w1 w'→w'.cell? ⟨k,3,none⟩=some (.slice la ln lc)∧w'.rangeAt w.heap.size 0 [.int .i64 p,.int .i64 sr,.int .i64 b,.int .i64 f]∧Below w1.heap.size w1 w'):=fun w' hb=>
  ⟨by rw [cell_of (HBK.out.below (HB0.out.trans (hb.mono HB0.out.size))).book 3];rfl,fun m v hm=>by rw [Nat.zero_add,cell_of ((hb.block _ (hp_lt HZ0.out)).trans HZ0.out) m];simpa using hm,hb⟩
 have CC:=Lib.hid (CC0.out w1.drew (HB0.out.trans ((Below.refl w1.heap.size w1).drew.mono HB0.out.size)))
 refine wp_region_noPanic ?_
 refine AnyT.region_start (d:=5) (S:=(fun w'=>w'.cell? ⟨k,3,none⟩=some (.slice la ln lc)∧w'.rangeAt w.heap.size 0 [.int .i64 p,.int .i64 sr,.int .i64 b,.int .i64 f]∧Below w1.heap.size w1 w')) Yo3 ?_ (fun hHeld0=>?_)
 ·(try dsimp only)
  exact KEEP.out _ (Below.refl _ _).drew
 refine YP 0 (h:=YP 1 (h:=YP 2 (h:=YK 3 (h:=?_))))
 refine AnyT.tk 4 ?_ rfl ?_ <| ?_
 rotate_left
 ·intro wS hSw;(try dsimp only at hSw)
  refine (exec_load_mid 59 (.tmp 3) ?_ w.heap.size 0 ?_ [.int .i64 p,.int .i64 sr,.int .i64 b,.int .i64 f] _ hSw.2.1 Tryz.underlying59 rfl Yo3).trans ?_
  all_goals rfl
 try simp only [AnyT.pt]
 refine YR 5 (h:=fun K hK=>?_)
 go_simp
 refine CC.out.mono ?_
 rintro e w2 ⟨rfl,hb2⟩
 have HB2:=Lib.hid ((Below.refl w1.heap.size w1).drew.trans hb2)
 clear hb2
 go_wp2_with fail
 refine AnyT.go_past hK _ _ Yo3 ?_
 clear hK K
 try simp only [AnyT.pt]
 refine YP 6 (h:=?_)
 refine AnyT.till_done Yo3 ?_ _
 refine NoPanic.normal ?_
 go_wp2_with fail
 go_ret
 exact ⟨rfl,HB0.out.trans (HB2.out.mono HB0.out.size)⟩
set_option maxRecDepth 100000 in
set_option maxHeartbeats 16000000 in
theorem View_some {k:Nat} {ov av mv lv:Value} {L:List OpB} {LS:List Life} {w:World} (h:BkF w k ov av mv lv L LS) (hL:L.length≤256) (x:Life) (hx:x∈LS) (h0:0≤x.bgn) (h1:x.bgn<L.length) :
  Calls Tryz.prog 87 #[.pointer (some ⟨k,0,none⟩),.agg (lifeCells x).toArray] w fun e w'=>(∃ V wv cv qv,e = .returned (.pointer (some ⟨V,0,none⟩))∧VB w' V k ov av mv lv L x wv cv qv∧VRows w' wv cv qv (statesV L x (L.length+1)))∧Below w.heap.size w w':=by
 have hdx:decide (x∈LS)=true:=decide_eq_true hx
 have HBK:=Lib.hid h
 have hlv:∃ a n c,lv = .slice a n c:=by obtain ⟨a,c,e⟩:=Row.form h.liv;exact ⟨a,_,c,e⟩
 obtain ⟨la,ln,lc,rfl⟩:=hlv
 have CC0:=Lib.hid (fun (w':World) (hb:Below w.heap.size w w')=>LContains_any _ LS x w' (Row.below h.liv hb))
 rw [hdx] at CC0
 clear hdx hx h
 obtain ⟨nb,hnb⟩:∃ nb:Nat,x.bgn=(nb:Int):=⟨x.bgn.toNat,by omega⟩
 obtain ⟨p,sr,b,f⟩:=x
 have hnb:b=(nb:Int):=hnb
 have h1:b<L.length:=h1
 subst hnb
 clear h0
 dsimp only [lifeCells] at CC0 ⊢
 have hnL:nb<L.length:=by omega
 clear h1
 have HZ0:Hid ((w.alloc (.cells #[.int .i64 p,.int .i64 sr,.int .i64 (nb:Int),.int .i64 f] 59)).heap[w.heap.size]?=some (.cells #[.int .i64 p,.int .i64 sr,.int .i64 (nb:Int),.int .i64 f] 59 (0,0))):=heap_new w _
 have HB0:Hid (Below w.heap.size w (w.alloc (.cells #[.int .i64 p,.int .i64 sr,.int .i64 (nb:Int),.int .i64 f] 59))):=below_alloc w _
 go_enter Tryz.func87,Tryz.ntmps87
 go_upto_region 1 with fail
 generalize w.alloc (.cells #[.int .i64 p,.int .i64 sr,.int .i64 (nb:Int),.int .i64 f] 59)=w1 at *
 have KEEP:Hid (∀ w',Below w1.heap.size w1 w'→w'.cell? ⟨k,3,none⟩=some (.slice la ln lc)∧w'.rangeAt w.heap.size 0 [.int .i64 p,.int .i64 sr,.int .i64 (nb:Int),.int .i64 f]∧Below w1.heap.size w1 w'):=fun w' hb=>
  ⟨by rw [cell_of (HBK.out.below (HB0.out.trans (hb.mono HB0.out.size))).book 3];rfl,fun m v hm=>by rw [Nat.zero_add,cell_of ((hb.block _ (hp_lt HZ0.out)).trans HZ0.out) m];simpa using hm,hb⟩
 have CC:=Lib.hid (CC0.out w1.drew (HB0.out.trans ((Below.refl w1.heap.size w1).drew.mono HB0.out.size)))
 refine wp_region_noPanic ?_
 refine AnyT.region_start (d:=5) (S:=(fun w'=>w'.cell? ⟨k,3,none⟩=some (.slice la ln lc)∧w'.rangeAt w.heap.size 0 [.int .i64 p,.int .i64 sr,.int .i64 (nb:Int),.int .i64 f]∧Below w1.heap.size w1 w')) Yo3 ?_ (fun hHeld0=>?_)
 ·(try dsimp only)
  exact KEEP.out _ (Below.refl _ _).drew
 refine YP 0 (h:=YP 1 (h:=YP 2 (h:=YK 3 (h:=?_))))
 refine AnyT.tk 4 ?_ rfl ?_ <| ?_
 rotate_left
 ·intro wS hSw;(try dsimp only at hSw)
  refine (exec_load_mid 59 (.tmp 3) ?_ w.heap.size 0 ?_ [.int .i64 p,.int .i64 sr,.int .i64 (nb:Int),.int .i64 f] _ hSw.2.1 Tryz.underlying59 rfl Yo3).trans ?_
  all_goals rfl
 try simp only [AnyT.pt]
 refine YR 5 (h:=fun K hK=>?_)
 go_simp
 refine CC.out.mono ?_
 rintro e w2 ⟨rfl,hb2⟩
 have HB2:=Lib.hid ((Below.refl w1.heap.size w1).drew.trans hb2)
 clear hb2
 go_wp2_with fail
 refine AnyT.go_past hK _ _ Yo3 ?_
 clear hK K
 try simp only [AnyT.pt]
 refine YP 6 (h:=?_)
 refine AnyT.till_done Yo3 ?_ _
 refine NoPanic.normal ?_
 have HB3:=Lib.hid (HB0.out.trans (HB2.out.mono HB0.out.size))
 have HZ3:Hid (w2.heap[w.heap.size]?=some (.cells #[.int .i64 p,.int .i64 sr,.int .i64 (nb:Int),.int .i64 f] 59 (0,0))):=(HB2.out.block _ (hp_lt HZ0.out)).trans HZ0.out
 have HBK2:=Lib.hid (HBK.out.below HB3.out)
 clear HB0 HB2 HZ0 KEEP CC CC0 hHeld0
 obtain ⟨g,o,c,nm,a1,n1,c1,a2,n2,c2,hov,hop⟩:=op_at HBK2.out.ops hnL
 have HOV:=Lib.hid hov
 have HLY:Hid (w2.cell? ⟨g,o+nb*7+3,none⟩=some (.int .i64 (opAt L nb).layer)):=range_at hop 3 rfl
 have hz3:=HZ3.out
 clear hov hop
 go_upto_region 4 with (with_reducible refine load_at 59 (.tmp 3) rfl ?_;refine load_rowTo2 rfl 59 (.tmp 3) rfl w.heap.size rfl 59 #[.int .i64 p,.int .i64 sr,.int .i64 (nb:Int),.int .i64 f] (0,0) _ hz3 Tryz.underlying59 rfl Yo3 ?_)
 clear hz3
 have HV4:Hid ((w2.alloc (.cells #[.pointer (some ⟨k,0,none⟩),.int .i64 p,.int .i64 sr,.int .i64 (nb:Int),.int .i64 f,.slice none 0 0,.slice none 0 0,.slice none 0 0] 164)).heap[w2.heap.size]?=some (.cells #[.pointer (some ⟨k,0,none⟩),.int .i64 p,.int .i64 sr,.int .i64 (nb:Int),.int .i64 f,.slice none 0 0,.slice none 0 0,.slice none 0 0] 164 (0,0))):=heap_new w2 _
 have HB24:Hid (Below w2.heap.size w2 (w2.alloc (.cells #[.pointer (some ⟨k,0,none⟩),.int .i64 p,.int .i64 sr,.int .i64 (nb:Int),.int .i64 f,.slice none 0 0,.slice none 0 0,.slice none 0 0] 164))):=below_alloc w2 _
 have HGV:Hid (w.heap.size≤w2.heap.size):=HB3.out.size
 generalize w2.alloc (.cells #[.pointer (some ⟨k,0,none⟩),.int .i64 p,.int .i64 sr,.int .i64 (nb:Int),.int .i64 f,.slice none 0 0,.slice none 0 0,.slice none 0 0] 164)=w4 at *
 have HB4:=Lib.hid (HB3.out.trans (HB24.out.mono HB3.out.size))
 have hnI:(nb:Int)<(L.length:Int):=Int.ofNat_lt.2 hnL
 have KEEP4:Hid (∀ w',Below w4.heap.size w4 w'→w'.cell? ⟨k,0,none⟩=some (.slice (some ⟨g,o,none⟩) L.length c)∧w'.cell? ⟨w.heap.size,2,none⟩=some (.int .i64 (nb:Int))∧w'.cell? ⟨g,o+nb*7+3,none⟩=some (.int .i64 (opAt L nb).layer)):=fun w' hb=>
  have hb2:=HB24.out.trans (hb.mono HB24.out.size)
  ⟨by rw [←HOV.out,cell_of (HBK2.out.below hb2).book 0];rfl,by rw [cell_of ((hb2.block _ (hp_lt HZ3.out)).trans HZ3.out) 2];rfl,cell_old HLY.out hb2⟩
 refine wp_region_noPanic ?_
 refine AnyT.region_start (d:=11) (S:=(fun w'=>w'.cell? ⟨k,0,none⟩=some (.slice (some ⟨g,o,none⟩) L.length c)∧w'.cell? ⟨w.heap.size,2,none⟩=some (.int .i64 (nb:Int))∧w'.cell? ⟨g,o+nb*7+3,none⟩=some (.int .i64 (opAt L nb).layer))) Yo3 ?_ (fun hHeld0=>?_)
 ·(try dsimp only)
  exact KEEP4.out _ (Below.refl _ _).drew
 refine YP 0 (h:=YP 1 (h:=YP 2 (h:=YP 4 (h:=YK 3 (h:=YK 5 (h:=YP 6 (h:=YP 7 (h:=YK 8 (h:=YP 9 (h:=?_))))))))))
 refine YR 10 (h:=fun K hK=>?_)
 go_simp
 refine AnyT.go_on hK _ _ ?_ (fun hHeld1=>?_)
 ·(try dsimp only)
  exact KEEP4.out _ (by first|exact (Below.refl _ _).drew|exact bel_alloc (Below.refl _ _).drew (Nat.le_refl _) _)
 clear hK K
 try simp only [AnyT.pt]
 refine YR 11 (h:=fun K hK=>?_)
 refine step_row (by rfl) 202 (.tmp 6) (.tmp 28) (by rfl) (by rfl) w4.heap.size (stCells (stateV L (⟨p,sr,(nb:Int),f⟩:Life) 0)).toArray (by rfl) (by rfl) 202 _ (heap_new w4.drew _) Yo3 (by rfl) (st_one _) ?_
 refine AnyT.go_past hK _ _ Yo3 ?_
 clear hK K
 try simp only [AnyT.pt]
 refine AnyT.till_done Yo3 ?_ _
 refine NoPanic.normal ?_
 go_upto_region 5 with fail
 have HO6:Hid (VO w ((w4.alloc (.cells #[.int .i64 0,.int .i64 0,.bool false,.bool false] 202)).drew.setRow w4.heap.size (stCells (stateV L (⟨p,sr,(nb:Int),f⟩:Life) 0)).toArray) w2.heap.size w4.heap.size k (⟨p,sr,(nb:Int),f⟩:Life) (stateV L (⟨p,sr,(nb:Int),f⟩:Life) 0) (.slice none 0 0) (.slice none 0 0) (.slice none 0 0) (.slice none 0 0) [] (.slice none 0 0) [] (.slice none 0 0) []):=
  have hv:w4.heap.size≠w2.heap.size:=fun e=>absurd (hp_lt HV4.out) (by omega)
  have ha:=bel_alloc (below_alloc' w4) (Nat.le_refl _) (.cells #[.int .i64 0,.int .i64 0,.bool false,.bool false] 202)
  ⟨below_setRow (HB4.out.trans (ha.mono HB4.out.size)) HB4.out.size _,by rw [setRow_other _ _ _ _ (fun e=>hv e.symm)];exact (ha.block _ (hp_lt HV4.out)).trans HV4.out,setRow_heap _ _ _ _ _ _ (heap_new w4.drew _),World.ownsRow_nil _ _ _ _,World.ownsRow_nil _ _ _ _,World.ownsRow_nil _ _ _ _,(fun i h=>by cases h),HGV.out,HB4.out.size⟩
 clear HV4 HB24 HB4 KEEP4 HB3 HZ3 HGV HLY
 generalize ((w4.alloc (.cells #[.int .i64 0,.int .i64 0,.bool false,.bool false] 202)).drew.setRow w4.heap.size (stCells (stateV L (⟨p,sr,(nb:Int),f⟩:Life) 0)).toArray)=w6 at *
 generalize w2.heap.size=V at *
 generalize w4.heap.size=T at *
 have b0:w6.cell? ⟨k,0,none⟩=some (.slice (some ⟨g,o,none⟩) L.length c):=by rw [←HOV.out,cell_of (HBK.out.below HO6.out.bel).book 0];rfl
 go_wp2_with fail
 clear b0
 go_loopw [35] (fun s35 w'=>∃ (j:Nat) (s:VS) (wv cv qv:Value),j≤L.length+1∧s35 = .int .i64 (j:Int)∧s=stateV L (⟨p,sr,(nb:Int),f⟩:Life) (min j L.length)∧VO w w' V T k (⟨p,sr,(nb:Int),f⟩:Life) s wv cv qv wv ((statesV L (⟨p,sr,(nb:Int),f⟩:Life) j).map VS.want) cv ((statesV L (⟨p,sr,(nb:Int),f⟩:Life) j).map VS.cur) qv ((statesV L (⟨p,sr,(nb:Int),f⟩:Life) j).map VS.quiet)) (fun s35 _=>L.length+1-(intOf s35).toNat)
 case atStart=>exact ⟨0,_,_,_,_,by omega,rfl,by rw [Nat.min_eq_left (Nat.zero_le _)],HO6.out⟩
 case round=>
  obtain ⟨j,s,wv,cv,qv,hj,rfl,hs,ho⟩:=hrel
  have HO:=Lib.hid ho
  have HS:=Lib.hid hs
  clear ho hs HO6
  by_cases hjn:j<L.length+1
  ·have dj:decide ((j:Int)<(L.length:Int)+1)=true:=decide_eq_true (by omega)
   have HS1:Hid (s=stateV L (⟨p,sr,(nb:Int),f⟩:Life) j):=by show _=_;rw [HS.out,Nat.min_eq_left (by omega)]
   obtain ⟨ws,hws⟩:∃ ws,ws=(statesV L (⟨p,sr,(nb:Int),f⟩:Life) j).map VS.want:=⟨_,rfl⟩
   obtain ⟨cs,hcs⟩:∃ cs,cs=(statesV L (⟨p,sr,(nb:Int),f⟩:Life) j).map VS.cur:=⟨_,rfl⟩
   obtain ⟨qs,hqs⟩:∃ qs,qs=(statesV L (⟨p,sr,(nb:Int),f⟩:Life) j).map VS.quiet:=⟨_,rfl⟩
   have lw:ws.length≤300:=by rw [hws,List.length_map,statesV_len];omega
   have lc':cs.length≤300:=by rw [hcs,List.length_map,statesV_len];omega
   have lq:qs.length≤300:=by rw [hqs,List.length_map,statesV_len];omega
   rw [←hws,←hcs,←hqs] at HO
   have HWS:=Lib.hid hws
   have HCS:=Lib.hid hcs
   have HQS:=Lib.hid hqs
   clear hws hcs hqs
   obtain ⟨wa,wc,rfl⟩:=Row.form (Row.of_owns HO.out.want)
   obtain ⟨ca,cc,rfl⟩:=Row.form (Row.of_owns HO.out.cur)
   obtain ⟨qa,qc,rfl⟩:=Row.form (Row.of_owns HO.out.quiet)
   obtain ⟨sw,sc,sp,sm⟩:=s
   go_upto_region 8 with fail
   have HO:=Lib.hid (HO.out.below (Below.refl _ _).drew)
   go_cut [] (fun wx=>∃ wv' cv' qv',VO w wx V T k (⟨p,sr,(nb:Int),f⟩:Life) ⟨sw,sc,sp,sm⟩ wv' cv' qv' wv' (ws++[sw]) cv' (cs++[sc]) qv' (qs++[sp || sm]))
   case first=>
    cases sp with
    | false=>
     refine wp_region_noPanic ?_
     refine AnyT.region_start (d:=33) (S:=(fun w'=>w'.cell? ⟨V,5,none⟩=some (.slice wa ws.length wc)∧w'.cell? ⟨V,6,none⟩=some (.slice ca cs.length cc)∧w'.cell? ⟨V,7,none⟩=some (.slice qa qs.length qc)∧w'.cell? ⟨T,0,none⟩=some (.int .i64 sw)∧w'.cell? ⟨T,1,none⟩=some (.int .i64 sc)∧w'.cell? ⟨T,2,none⟩=some (.bool false)∧w'.cell? ⟨T,3,none⟩=some (.bool sm))) Yo3 ?_ (fun hHeld0=>?_)
     ·(try dsimp only)
      exact HO.out.facts
     refine YP 0 (h:=YP 1 (h:=YP 2 (h:=YP 3 (h:=YP 4 (h:=YP 5 (h:=YP 7 (h:=YP 11 (h:=YP 12 (h:=YP 13 (h:=YP 15 (h:=YP 19 (h:=YP 20 (h:=YP 21 (h:=YP 23 (h:=YK 6 (h:=YK 8 (h:=YK 14 (h:=YK 16 (h:=YK 22 (h:=YK 24 (h:=?_)))))))))))))))))))))
     refine AnyT.till_ready (rs:=[9,17]) Yo3 (by simp) ?_
     refine AnyT.each_cons (i:=9) rfl (fun K hK=>?_) ?_
     ·skip
      refine step_slice1v (by rfl) elemInt (.tmp 46) (by rfl) (.int .i64 sw) (by rfl) (by rfl) ?_
      have HZ9:Hid ((wr.drew.alloc (.cells #[.int .i64 sw] 3)).heap[wr.drew.heap.size]?=some (.cells #[.int .i64 sw] 3 (0,0))):=heap_new wr.drew _
      have hal:=below_alloc wr.drew (.cells #[.int .i64 sw] 3)
      have HO:=Lib.hid (HO.out.below hal)
      clear hal
      refine AnyT.go_on hK _ _ ?_ (fun hHeld1=>?_)
      ·(try dsimp only)
       exact HO.out.facts
      clear hK K
      try simp only [AnyT.pt]
      refine AnyT.till_ready (rs:=[10,17]) Yo3 (by simp) ?_
      refine AnyT.each_cons (i:=10) rfl (fun K hK=>?_) ?_
      ·skip
       refine step_appW (by rfl) (.tmp 44) (.tmp 47) 72 (by rfl) w.heap.size elemInt (.slice wa ws.length wc) ws.length (intsV ws) (by rfl) HO.out.want ((wr.drew).heap.size) 1 1 [.int .i64 sw] (by rfl) (row_one HZ9.out) rfl Yo10 (by decide) (by omega) (by omega) HO.out.bel.size ?_
       intro v10 w10 HO10 HG10 HW10
       have HA10:Hid (w10.ownsRow w.heap.size 3 1 v10 (ws++[sw]).length (intsV (ws++[sw]))):=Yo27
       have HO:=Lib.hid (HO.out.growW HG10.out HA10.out HW10.out)
       obtain ⟨xa,xc,hx⟩:∃ a c,v10 = .slice a (ws.length+1) c:=by obtain ⟨a,c,h⟩:=Row.form (Row.of_owns HA10.out);exact ⟨a,c,by rw [h,List.length_append];rfl⟩
       subst hx
       refine AnyT.go_on hK _ _ ?_ (fun hHeld2=>?_)
       ·(try dsimp only)
        exact HO.out.facts
       clear hK K
       try simp only [AnyT.pt]
       refine YR 17 (h:=fun K hK=>?_)
       refine step_slice1v (by rfl) elemInt (.tmp 54) (by rfl) (.int .i64 sc) (by rfl) (by rfl) ?_
       have HZ17:Hid ((w10.alloc (.cells #[.int .i64 sc] 3)).heap[w10.heap.size]?=some (.cells #[.int .i64 sc] 3 (0,0))):=heap_new w10 _
       have hal:=below_alloc w10 (.cells #[.int .i64 sc] 3)
       have HO:=Lib.hid (HO.out.below hal)
       clear hal
       refine AnyT.go_on hK _ _ ?_ (fun hHeld3=>?_)
       ·(try dsimp only)
        exact HO.out.facts
       clear hK K
       try simp only [AnyT.pt]
       refine YR 18 (h:=fun K hK=>?_)
       refine step_appW (by rfl) (.tmp 52) (.tmp 55) 72 (by rfl) w.heap.size elemInt (.slice ca cs.length cc) cs.length (intsV cs) (by rfl) HO.out.cur ((w10).heap.size) 1 1 [.int .i64 sc] (by rfl) (row_one HZ17.out) rfl Yo10 (by decide) (by omega) (by omega) HO.out.bel.size ?_
       intro v18 w18 HO18 HG18 HW18
       have HA18:Hid (w18.ownsRow w.heap.size 3 1 v18 (cs++[sc]).length (intsV (cs++[sc]))):=Yo26
       have HO:=Lib.hid (HO.out.growC HG18.out HA18.out HW18.out)
       obtain ⟨ya,yc,hx⟩:∃ a c,v18 = .slice a (cs.length+1) c:=by obtain ⟨a,c,h⟩:=Row.form (Row.of_owns HA18.out);exact ⟨a,c,by rw [h,List.length_append];rfl⟩
       subst hx
       refine AnyT.go_on hK _ _ ?_ (fun hHeld4=>?_)
       ·(try dsimp only)
        exact HO.out.facts
       clear hK K
       try simp only [AnyT.pt]
       refine YP 25 (h:=YP 26 (h:=YK 27 (h:=YP 28 (h:=?_))))
       refine YR 29 (h:=fun K hK=>?_)
       refine step_slice1v (by rfl) elemBool (.tmp 66) (by rfl) (.bool sm) (by rfl) (by rfl) ?_
       have HZ29:Hid ((w18.alloc (.cells #[.bool sm] 4)).heap[w18.heap.size]?=some (.cells #[.bool sm] 4 (0,0))):=heap_new w18 _
       have hal:=below_alloc w18 (.cells #[.bool sm] 4)
       have HO:=Lib.hid (HO.out.below hal)
       clear hal
       refine AnyT.go_on hK _ _ ?_ (fun hHeld5=>?_)
       ·(try dsimp only)
        exact HO.out.facts
       clear hK K
       try simp only [AnyT.pt]
       refine YR 30 (h:=fun K hK=>?_)
       refine step_appW (by rfl) (.tmp 60) (.tmp 67) 122 (by rfl) w.heap.size elemBool (.slice qa qs.length qc) qs.length (boolsV qs) (by rfl) HO.out.quiet ((w18).heap.size) 1 1 [.bool sm] (by rfl) (row_one HZ29.out) rfl Yo10 (by decide) (by omega) (by omega) HO.out.bel.size ?_
       intro v30 w30 HO30 HG30 HW30
       have HA30:Hid (w30.ownsRow w.heap.size 4 1 v30 (qs++[sm]).length (boolsV (qs++[sm]))):=Yo24
       exact Yx78
      refine AnyT.each_cons (i:=17) rfl (fun K hK=>?_) AnyT.each_nil
      refine step_slice1v (by rfl) elemInt (.tmp 54) (by rfl) (.int .i64 sc) (by rfl) (by rfl) ?_
      have HZ17:Hid (((wr.drew.alloc (.cells #[.int .i64 sw] 3)).alloc (.cells #[.int .i64 sc] 3)).heap[(wr.drew.alloc (.cells #[.int .i64 sw] 3)).heap.size]?=some (.cells #[.int .i64 sc] 3 (0,0))):=heap_new (wr.drew.alloc (.cells #[.int .i64 sw] 3)) _
      have HN17:Hid (∀ i,(Value.slice wa ws.length wc).ownBlock=some i→i<(wr.drew.alloc (.cells #[.int .i64 sw] 3)).heap.size):=fun i hi=>owns_ltV HO.out.want hi
      have hal:=below_alloc (wr.drew.alloc (.cells #[.int .i64 sw] 3)) (.cells #[.int .i64 sc] 3)
      have HZ9:=Lib.hid ((hal.block _ (hp_lt HZ9.out)).trans HZ9.out)
      have HO:=Lib.hid (HO.out.below hal)
      clear hal
      refine AnyT.go_on hK _ _ ?_ (fun hHeld10=>?_)
      ·(try dsimp only)
       exact HO.out.facts
      clear hK K
      try simp only [AnyT.pt]
      refine YR 10 (h:=fun K hK=>?_)
      refine step_appW (by rfl) (.tmp 44) (.tmp 47) 72 (by rfl) w.heap.size elemInt (.slice wa ws.length wc) ws.length (intsV ws) (by rfl) HO.out.want ((wr.drew).heap.size) 1 1 [.int .i64 sw] (by rfl) (row_one HZ9.out) rfl Yo10 (by decide) (by omega) (by omega) HO.out.bel.size ?_
      intro v10 w10 HO10 HG10 HW10
      have HA10:Hid (w10.ownsRow w.heap.size 3 1 v10 (ws++[sw]).length (intsV (ws++[sw]))):=Yo27
      have HZ17:=Lib.hid ((HG10.out.block _ (hp_lt HZ17.out) (fun e=>absurd (HN17.out _ e.symm) (Nat.lt_irrefl _))).trans HZ17.out)
      have HO:=Lib.hid (HO.out.growW HG10.out HA10.out HW10.out)
      obtain ⟨xa,xc,hx⟩:∃ a c,v10 = .slice a (ws.length+1) c:=by obtain ⟨a,c,h⟩:=Row.form (Row.of_owns HA10.out);exact ⟨a,c,by rw [h,List.length_append];rfl⟩
      subst hx
      refine AnyT.go_on hK _ _ ?_ (fun hHeld11=>?_)
      ·(try dsimp only)
       exact HO.out.facts
      clear hK K
      try simp only [AnyT.pt]
      refine YR 18 (h:=fun K hK=>?_)
      refine step_appW (by rfl) (.tmp 52) (.tmp 55) 72 (by rfl) w.heap.size elemInt (.slice ca cs.length cc) cs.length (intsV cs) (by rfl) HO.out.cur (((wr.drew.alloc (.cells #[.int .i64 sw] 3))).heap.size) 1 1 [.int .i64 sc] (by rfl) (row_one HZ17.out) rfl Yo10 (by decide) (by omega) (by omega) HO.out.bel.size ?_
      intro v18 w18 HO18 HG18 HW18
      have HA18:Hid (w18.ownsRow w.heap.size 3 1 v18 (cs++[sc]).length (intsV (cs++[sc]))):=Yo26
      have HO:=Lib.hid (HO.out.growC HG18.out HA18.out HW18.out)
      obtain ⟨ya,yc,hx⟩:∃ a c,v18 = .slice a (cs.length+1) c:=by obtain ⟨a,c,h⟩:=Row.form (Row.of_owns HA18.out);exact ⟨a,c,by rw [h,List.length_append];rfl⟩
      subst hx
      refine AnyT.go_on hK _ _ ?_ (fun hHeld12=>?_)
      ·(try dsimp only)
       exact HO.out.facts
      clear hK K
      try simp only [AnyT.pt]
      refine YP 25 (h:=YP 26 (h:=YK 27 (h:=YP 28 (h:=?_))))
      refine YR 29 (h:=fun K hK=>?_)
      refine step_slice1v (by rfl) elemBool (.tmp 66) (by rfl) (.bool sm) (by rfl) (by rfl) ?_
      have HZ29:Hid ((w18.alloc (.cells #[.bool sm] 4)).heap[w18.heap.size]?=some (.cells #[.bool sm] 4 (0,0))):=heap_new w18 _
      have hal:=below_alloc w18 (.cells #[.bool sm] 4)
      have HO:=Lib.hid (HO.out.below hal)
      clear hal
      refine AnyT.go_on hK _ _ ?_ (fun hHeld13=>?_)
      ·(try dsimp only)
       exact HO.out.facts
      clear hK K
      try simp only [AnyT.pt]
      refine YR 30 (h:=fun K hK=>?_)
      refine step_appW (by rfl) (.tmp 60) (.tmp 67) 122 (by rfl) w.heap.size elemBool (.slice qa qs.length qc) qs.length (boolsV qs) (by rfl) HO.out.quiet ((w18).heap.size) 1 1 [.bool sm] (by rfl) (row_one HZ29.out) rfl Yo10 (by decide) (by omega) (by omega) HO.out.bel.size ?_
      intro v30 w30 HO30 HG30 HW30
      have HA30:Hid (w30.ownsRow w.heap.size 4 1 v30 (qs++[sm]).length (boolsV (qs++[sm]))):=Yo24
      exact Yx77
     refine AnyT.each_cons (i:=17) rfl (fun K hK=>?_) AnyT.each_nil
     refine step_slice1v (by rfl) elemInt (.tmp 54) (by rfl) (.int .i64 sc) (by rfl) (by rfl) ?_
     have HZ17:Hid ((wr.drew.alloc (.cells #[.int .i64 sc] 3)).heap[wr.drew.heap.size]?=some (.cells #[.int .i64 sc] 3 (0,0))):=heap_new wr.drew _
     have HN17:Hid (∀ i,(Value.slice wa ws.length wc).ownBlock=some i→i<wr.drew.heap.size):=fun i hi=>owns_ltV HO.out.want hi
     have hal:=below_alloc wr.drew (.cells #[.int .i64 sc] 3)
     have HO:=Lib.hid (HO.out.below hal)
     clear hal
     refine AnyT.go_on hK _ _ ?_ (fun hHeld18=>?_)
     ·(try dsimp only)
      exact HO.out.facts
     clear hK K
     try simp only [AnyT.pt]
     refine YR 9 (h:=fun K hK=>?_)
     refine step_slice1v (by rfl) elemInt (.tmp 46) (by rfl) (.int .i64 sw) (by rfl) (by rfl) ?_
     have HZ9:Hid (((wr.drew.alloc (.cells #[.int .i64 sc] 3)).alloc (.cells #[.int .i64 sw] 3)).heap[(wr.drew.alloc (.cells #[.int .i64 sc] 3)).heap.size]?=some (.cells #[.int .i64 sw] 3 (0,0))):=heap_new (wr.drew.alloc (.cells #[.int .i64 sc] 3)) _
     have hal:=below_alloc (wr.drew.alloc (.cells #[.int .i64 sc] 3)) (.cells #[.int .i64 sw] 3)
     have HZ17:=Lib.hid ((hal.block _ (hp_lt HZ17.out)).trans HZ17.out)
     have HO:=Lib.hid (HO.out.below hal)
     clear hal
     refine AnyT.go_on hK _ _ ?_ (fun hHeld19=>?_)
     ·(try dsimp only)
      exact HO.out.facts
     clear hK K
     try simp only [AnyT.pt]
     refine YR 10 (h:=fun K hK=>?_)
     refine step_appW (by rfl) (.tmp 44) (.tmp 47) 72 (by rfl) w.heap.size elemInt (.slice wa ws.length wc) ws.length (intsV ws) (by rfl) HO.out.want (((wr.drew.alloc (.cells #[.int .i64 sc] 3))).heap.size) 1 1 [.int .i64 sw] (by rfl) (row_one HZ9.out) rfl Yo10 (by decide) (by omega) (by omega) HO.out.bel.size ?_
     intro v10 w10 HO10 HG10 HW10
     have HA10:Hid (w10.ownsRow w.heap.size 3 1 v10 (ws++[sw]).length (intsV (ws++[sw]))):=Yo27
     have HZ17:=Lib.hid ((HG10.out.block _ (hp_lt HZ17.out) (fun e=>absurd (HN17.out _ e.symm) (Nat.lt_irrefl _))).trans HZ17.out)
     have HO:=Lib.hid (HO.out.growW HG10.out HA10.out HW10.out)
     obtain ⟨xa,xc,hx⟩:∃ a c,v10 = .slice a (ws.length+1) c:=by obtain ⟨a,c,h⟩:=Row.form (Row.of_owns HA10.out);exact ⟨a,c,by rw [h,List.length_append];rfl⟩
     subst hx
     refine AnyT.go_on hK _ _ ?_ (fun hHeld20=>?_)
     ·(try dsimp only)
      exact HO.out.facts
     clear hK K
     try simp only [AnyT.pt]
     refine YR 18 (h:=fun K hK=>?_)
     refine step_appW (by rfl) (.tmp 52) (.tmp 55) 72 (by rfl) w.heap.size elemInt (.slice ca cs.length cc) cs.length (intsV cs) (by rfl) HO.out.cur ((wr.drew).heap.size) 1 1 [.int .i64 sc] (by rfl) (row_one HZ17.out) rfl Yo10 (by decide) (by omega) (by omega) HO.out.bel.size ?_
     intro v18 w18 HO18 HG18 HW18
     have HA18:Hid (w18.ownsRow w.heap.size 3 1 v18 (cs++[sc]).length (intsV (cs++[sc]))):=Yo26
     have HO:=Lib.hid (HO.out.growC HG18.out HA18.out HW18.out)
     obtain ⟨ya,yc,hx⟩:∃ a c,v18 = .slice a (cs.length+1) c:=by obtain ⟨a,c,h⟩:=Row.form (Row.of_owns HA18.out);exact ⟨a,c,by rw [h,List.length_append];rfl⟩
     subst hx
     refine AnyT.go_on hK _ _ ?_ (fun hHeld21=>?_)
     ·(try dsimp only)
      exact HO.out.facts
     clear hK K
     try simp only [AnyT.pt]
     refine YP 25 (h:=YP 26 (h:=YK 27 (h:=YP 28 (h:=?_))))
     refine YR 29 (h:=fun K hK=>?_)
     refine step_slice1v (by rfl) elemBool (.tmp 66) (by rfl) (.bool sm) (by rfl) (by rfl) ?_
     have HZ29:Hid ((w18.alloc (.cells #[.bool sm] 4)).heap[w18.heap.size]?=some (.cells #[.bool sm] 4 (0,0))):=heap_new w18 _
     have hal:=below_alloc w18 (.cells #[.bool sm] 4)
     have HO:=Lib.hid (HO.out.below hal)
     clear hal
     refine AnyT.go_on hK _ _ ?_ (fun hHeld22=>?_)
     ·(try dsimp only)
      exact HO.out.facts
     clear hK K
     try simp only [AnyT.pt]
     refine YR 30 (h:=fun K hK=>?_)
     refine step_appW (by rfl) (.tmp 60) (.tmp 67) 122 (by rfl) w.heap.size elemBool (.slice qa qs.length qc) qs.length (boolsV qs) (by rfl) HO.out.quiet ((w18).heap.size) 1 1 [.bool sm] (by rfl) (row_one HZ29.out) rfl Yo10 (by decide) (by omega) (by omega) HO.out.bel.size ?_
     intro v30 w30 HO30 HG30 HW30
     have HA30:Hid (w30.ownsRow w.heap.size 4 1 v30 (qs++[sm]).length (boolsV (qs++[sm]))):=Yo24
     exact Yx76
    | true=>
     refine wp_region_noPanic ?_
     refine AnyT.region_start (d:=33) (S:=(fun w'=>w'.cell? ⟨V,5,none⟩=some (.slice wa ws.length wc)∧w'.cell? ⟨V,6,none⟩=some (.slice ca cs.length cc)∧w'.cell? ⟨V,7,none⟩=some (.slice qa qs.length qc)∧w'.cell? ⟨T,0,none⟩=some (.int .i64 sw)∧w'.cell? ⟨T,1,none⟩=some (.int .i64 sc)∧w'.cell? ⟨T,2,none⟩=some (.bool true)∧w'.cell? ⟨T,3,none⟩=some (.bool sm))) Yo3 ?_ (fun hHeld0=>?_)
     ·(try dsimp only)
      exact HO.out.facts
     refine YP 0 (h:=YP 1 (h:=YP 2 (h:=YP 3 (h:=YP 4 (h:=YP 5 (h:=YP 7 (h:=YP 11 (h:=YP 12 (h:=YP 13 (h:=YP 15 (h:=YP 19 (h:=YP 20 (h:=YP 21 (h:=YP 23 (h:=YK 6 (h:=YK 8 (h:=YK 14 (h:=YK 16 (h:=YK 22 (h:=YK 24 (h:=?_)))))))))))))))))))))
     refine AnyT.till_ready (rs:=[9,17]) Yo3 (by simp) ?_
     refine AnyT.each_cons (i:=9) rfl (fun K hK=>?_) ?_
     ·skip
      refine step_slice1v (by rfl) elemInt (.tmp 46) (by rfl) (.int .i64 sw) (by rfl) (by rfl) ?_
      have HZ9:Hid ((wr.drew.alloc (.cells #[.int .i64 sw] 3)).heap[wr.drew.heap.size]?=some (.cells #[.int .i64 sw] 3 (0,0))):=heap_new wr.drew _
      have hal:=below_alloc wr.drew (.cells #[.int .i64 sw] 3)
      have HO:=Lib.hid (HO.out.below hal)
      clear hal
      refine AnyT.go_on hK _ _ ?_ (fun hHeld1=>?_)
      ·(try dsimp only)
       exact HO.out.facts
      clear hK K
      try simp only [AnyT.pt]
      refine AnyT.till_ready (rs:=[10,17]) Yo3 (by simp) ?_
      refine AnyT.each_cons (i:=10) rfl (fun K hK=>?_) ?_
      ·skip
       refine step_appW (by rfl) (.tmp 44) (.tmp 47) 72 (by rfl) w.heap.size elemInt (.slice wa ws.length wc) ws.length (intsV ws) (by rfl) HO.out.want ((wr.drew).heap.size) 1 1 [.int .i64 sw] (by rfl) (row_one HZ9.out) rfl Yo10 (by decide) (by omega) (by omega) HO.out.bel.size ?_
       intro v10 w10 HO10 HG10 HW10
       have HA10:Hid (w10.ownsRow w.heap.size 3 1 v10 (ws++[sw]).length (intsV (ws++[sw]))):=Yo27
       have HO:=Lib.hid (HO.out.growW HG10.out HA10.out HW10.out)
       obtain ⟨xa,xc,hx⟩:∃ a c,v10 = .slice a (ws.length+1) c:=by obtain ⟨a,c,h⟩:=Row.form (Row.of_owns HA10.out);exact ⟨a,c,by rw [h,List.length_append];rfl⟩
       subst hx
       refine AnyT.go_on hK _ _ ?_ (fun hHeld2=>?_)
       ·(try dsimp only)
        exact HO.out.facts
       clear hK K
       try simp only [AnyT.pt]
       refine YR 17 (h:=fun K hK=>?_)
       refine step_slice1v (by rfl) elemInt (.tmp 54) (by rfl) (.int .i64 sc) (by rfl) (by rfl) ?_
       have HZ17:Hid ((w10.alloc (.cells #[.int .i64 sc] 3)).heap[w10.heap.size]?=some (.cells #[.int .i64 sc] 3 (0,0))):=heap_new w10 _
       have hal:=below_alloc w10 (.cells #[.int .i64 sc] 3)
       have HO:=Lib.hid (HO.out.below hal)
       clear hal
       refine AnyT.go_on hK _ _ ?_ (fun hHeld3=>?_)
       ·(try dsimp only)
        exact HO.out.facts
       clear hK K
       try simp only [AnyT.pt]
       refine YR 18 (h:=fun K hK=>?_)
       refine step_appW (by rfl) (.tmp 52) (.tmp 55) 72 (by rfl) w.heap.size elemInt (.slice ca cs.length cc) cs.length (intsV cs) (by rfl) HO.out.cur ((w10).heap.size) 1 1 [.int .i64 sc] (by rfl) (row_one HZ17.out) rfl Yo10 (by decide) (by omega) (by omega) HO.out.bel.size ?_
       intro v18 w18 HO18 HG18 HW18
       have HA18:Hid (w18.ownsRow w.heap.size 3 1 v18 (cs++[sc]).length (intsV (cs++[sc]))):=Yo26
       have HO:=Lib.hid (HO.out.growC HG18.out HA18.out HW18.out)
       obtain ⟨ya,yc,hx⟩:∃ a c,v18 = .slice a (cs.length+1) c:=by obtain ⟨a,c,h⟩:=Row.form (Row.of_owns HA18.out);exact ⟨a,c,by rw [h,List.length_append];rfl⟩
       subst hx
       refine AnyT.go_on hK _ _ ?_ (fun hHeld4=>?_)
       ·(try dsimp only)
        exact HO.out.facts
       clear hK K
       try simp only [AnyT.pt]
       refine YP 25 (h:=YT 26 (h:=YT 27 (h:=YP 28 (h:=?_))))
       refine YR 29 (h:=fun K hK=>?_)
       refine step_slice1v (by rfl) elemBool (.tmp 66) (by rfl) (.bool true) (by rfl) (by rfl) ?_
       have HZ29:Hid ((w18.alloc (.cells #[.bool true] 4)).heap[w18.heap.size]?=some (.cells #[.bool true] 4 (0,0))):=heap_new w18 _
       have hal:=below_alloc w18 (.cells #[.bool true] 4)
       have HO:=Lib.hid (HO.out.below hal)
       clear hal
       refine AnyT.go_on hK _ _ ?_ (fun hHeld5=>?_)
       ·(try dsimp only)
        exact HO.out.facts
       clear hK K
       try simp only [AnyT.pt]
       refine YR 30 (h:=fun K hK=>?_)
       refine step_appW (by rfl) (.tmp 60) (.tmp 67) 122 (by rfl) w.heap.size elemBool (.slice qa qs.length qc) qs.length (boolsV qs) (by rfl) HO.out.quiet ((w18).heap.size) 1 1 [.bool true] (by rfl) (row_one HZ29.out) rfl Yo10 (by decide) (by omega) (by omega) HO.out.bel.size ?_
       intro v30 w30 HO30 HG30 HW30
       have HA30:Hid (w30.ownsRow w.heap.size 4 1 v30 (qs++[true]).length (boolsV (qs++[true]))):=Yo24
       exact Yx78
      refine AnyT.each_cons (i:=17) rfl (fun K hK=>?_) AnyT.each_nil
      refine step_slice1v (by rfl) elemInt (.tmp 54) (by rfl) (.int .i64 sc) (by rfl) (by rfl) ?_
      have HZ17:Hid (((wr.drew.alloc (.cells #[.int .i64 sw] 3)).alloc (.cells #[.int .i64 sc] 3)).heap[(wr.drew.alloc (.cells #[.int .i64 sw] 3)).heap.size]?=some (.cells #[.int .i64 sc] 3 (0,0))):=heap_new (wr.drew.alloc (.cells #[.int .i64 sw] 3)) _
      have HN17:Hid (∀ i,(Value.slice wa ws.length wc).ownBlock=some i→i<(wr.drew.alloc (.cells #[.int .i64 sw] 3)).heap.size):=fun i hi=>owns_ltV HO.out.want hi
      have hal:=below_alloc (wr.drew.alloc (.cells #[.int .i64 sw] 3)) (.cells #[.int .i64 sc] 3)
      have HZ9:=Lib.hid ((hal.block _ (hp_lt HZ9.out)).trans HZ9.out)
      have HO:=Lib.hid (HO.out.below hal)
      clear hal
      refine AnyT.go_on hK _ _ ?_ (fun hHeld10=>?_)
      ·(try dsimp only)
       exact HO.out.facts
      clear hK K
      try simp only [AnyT.pt]
      refine YR 10 (h:=fun K hK=>?_)
      refine step_appW (by rfl) (.tmp 44) (.tmp 47) 72 (by rfl) w.heap.size elemInt (.slice wa ws.length wc) ws.length (intsV ws) (by rfl) HO.out.want ((wr.drew).heap.size) 1 1 [.int .i64 sw] (by rfl) (row_one HZ9.out) rfl Yo10 (by decide) (by omega) (by omega) HO.out.bel.size ?_
      intro v10 w10 HO10 HG10 HW10
      have HA10:Hid (w10.ownsRow w.heap.size 3 1 v10 (ws++[sw]).length (intsV (ws++[sw]))):=Yo27
      have HZ17:=Lib.hid ((HG10.out.block _ (hp_lt HZ17.out) (fun e=>absurd (HN17.out _ e.symm) (Nat.lt_irrefl _))).trans HZ17.out)
      have HO:=Lib.hid (HO.out.growW HG10.out HA10.out HW10.out)
      obtain ⟨xa,xc,hx⟩:∃ a c,v10 = .slice a (ws.length+1) c:=by obtain ⟨a,c,h⟩:=Row.form (Row.of_owns HA10.out);exact ⟨a,c,by rw [h,List.length_append];rfl⟩
      subst hx
      refine AnyT.go_on hK _ _ ?_ (fun hHeld11=>?_)
      ·(try dsimp only)
       exact HO.out.facts
      clear hK K
      try simp only [AnyT.pt]
      refine YR 18 (h:=fun K hK=>?_)
      refine step_appW (by rfl) (.tmp 52) (.tmp 55) 72 (by rfl) w.heap.size elemInt (.slice ca cs.length cc) cs.length (intsV cs) (by rfl) HO.out.cur (((wr.drew.alloc (.cells #[.int .i64 sw] 3))).heap.size) 1 1 [.int .i64 sc] (by rfl) (row_one HZ17.out) rfl Yo10 (by decide) (by omega) (by omega) HO.out.bel.size ?_
      intro v18 w18 HO18 HG18 HW18
      have HA18:Hid (w18.ownsRow w.heap.size 3 1 v18 (cs++[sc]).length (intsV (cs++[sc]))):=Yo26
      have HO:=Lib.hid (HO.out.growC HG18.out HA18.out HW18.out)
      obtain ⟨ya,yc,hx⟩:∃ a c,v18 = .slice a (cs.length+1) c:=by obtain ⟨a,c,h⟩:=Row.form (Row.of_owns HA18.out);exact ⟨a,c,by rw [h,List.length_append];rfl⟩
      subst hx
      refine AnyT.go_on hK _ _ ?_ (fun hHeld12=>?_)
      ·(try dsimp only)
       exact HO.out.facts
      clear hK K
      try simp only [AnyT.pt]
      refine YP 25 (h:=YT 26 (h:=YT 27 (h:=YP 28 (h:=?_))))
      refine YR 29 (h:=fun K hK=>?_)
      refine step_slice1v (by rfl) elemBool (.tmp 66) (by rfl) (.bool true) (by rfl) (by rfl) ?_
      have HZ29:Hid ((w18.alloc (.cells #[.bool true] 4)).heap[w18.heap.size]?=some (.cells #[.bool true] 4 (0,0))):=heap_new w18 _
      have hal:=below_alloc w18 (.cells #[.bool true] 4)
      have HO:=Lib.hid (HO.out.below hal)
      clear hal
      refine AnyT.go_on hK _ _ ?_ (fun hHeld13=>?_)
      ·(try dsimp only)
       exact HO.out.facts
      clear hK K
      try simp only [AnyT.pt]
      refine YR 30 (h:=fun K hK=>?_)
      refine step_appW (by rfl) (.tmp 60) (.tmp 67) 122 (by rfl) w.heap.size elemBool (.slice qa qs.length qc) qs.length (boolsV qs) (by rfl) HO.out.quiet ((w18).heap.size) 1 1 [.bool true] (by rfl) (row_one HZ29.out) rfl Yo10 (by decide) (by omega) (by omega) HO.out.bel.size ?_
      intro v30 w30 HO30 HG30 HW30
      have HA30:Hid (w30.ownsRow w.heap.size 4 1 v30 (qs++[true]).length (boolsV (qs++[true]))):=Yo24
      exact Yx77
     refine AnyT.each_cons (i:=17) rfl (fun K hK=>?_) AnyT.each_nil
     refine step_slice1v (by rfl) elemInt (.tmp 54) (by rfl) (.int .i64 sc) (by rfl) (by rfl) ?_
     have HZ17:Hid ((wr.drew.alloc (.cells #[.int .i64 sc] 3)).heap[wr.drew.heap.size]?=some (.cells #[.int .i64 sc] 3 (0,0))):=heap_new wr.drew _
     have HN17:Hid (∀ i,(Value.slice wa ws.length wc).ownBlock=some i→i<wr.drew.heap.size):=fun i hi=>owns_ltV HO.out.want hi
     have hal:=below_alloc wr.drew (.cells #[.int .i64 sc] 3)
     have HO:=Lib.hid (HO.out.below hal)
     clear hal
     refine AnyT.go_on hK _ _ ?_ (fun hHeld18=>?_)
     ·(try dsimp only)
      exact HO.out.facts
     clear hK K
     try simp only [AnyT.pt]
     refine YR 9 (h:=fun K hK=>?_)
     refine step_slice1v (by rfl) elemInt (.tmp 46) (by rfl) (.int .i64 sw) (by rfl) (by rfl) ?_
     have HZ9:Hid (((wr.drew.alloc (.cells #[.int .i64 sc] 3)).alloc (.cells #[.int .i64 sw] 3)).heap[(wr.drew.alloc (.cells #[.int .i64 sc] 3)).heap.size]?=some (.cells #[.int .i64 sw] 3 (0,0))):=heap_new (wr.drew.alloc (.cells #[.int .i64 sc] 3)) _
     have hal:=below_alloc (wr.drew.alloc (.cells #[.int .i64 sc] 3)) (.cells #[.int .i64 sw] 3)
     have HZ17:=Lib.hid ((hal.block _ (hp_lt HZ17.out)).trans HZ17.out)
     have HO:=Lib.hid (HO.out.below hal)
     clear hal
     refine AnyT.go_on hK _ _ ?_ (fun hHeld19=>?_)
     ·(try dsimp only)
      exact HO.out.facts
     clear hK K
     try simp only [AnyT.pt]
     refine YR 10 (h:=fun K hK=>?_)
     refine step_appW (by rfl) (.tmp 44) (.tmp 47) 72 (by rfl) w.heap.size elemInt (.slice wa ws.length wc) ws.length (intsV ws) (by rfl) HO.out.want (((wr.drew.alloc (.cells #[.int .i64 sc] 3))).heap.size) 1 1 [.int .i64 sw] (by rfl) (row_one HZ9.out) rfl Yo10 (by decide) (by omega) (by omega) HO.out.bel.size ?_
     intro v10 w10 HO10 HG10 HW10
     have HA10:Hid (w10.ownsRow w.heap.size 3 1 v10 (ws++[sw]).length (intsV (ws++[sw]))):=Yo27
     have HZ17:=Lib.hid ((HG10.out.block _ (hp_lt HZ17.out) (fun e=>absurd (HN17.out _ e.symm) (Nat.lt_irrefl _))).trans HZ17.out)
     have HO:=Lib.hid (HO.out.growW HG10.out HA10.out HW10.out)
     obtain ⟨xa,xc,hx⟩:∃ a c,v10 = .slice a (ws.length+1) c:=by obtain ⟨a,c,h⟩:=Row.form (Row.of_owns HA10.out);exact ⟨a,c,by rw [h,List.length_append];rfl⟩
     subst hx
     refine AnyT.go_on hK _ _ ?_ (fun hHeld20=>?_)
     ·(try dsimp only)
      exact HO.out.facts
     clear hK K
     try simp only [AnyT.pt]
     refine YR 18 (h:=fun K hK=>?_)
     refine step_appW (by rfl) (.tmp 52) (.tmp 55) 72 (by rfl) w.heap.size elemInt (.slice ca cs.length cc) cs.length (intsV cs) (by rfl) HO.out.cur ((wr.drew).heap.size) 1 1 [.int .i64 sc] (by rfl) (row_one HZ17.out) rfl Yo10 (by decide) (by omega) (by omega) HO.out.bel.size ?_
     intro v18 w18 HO18 HG18 HW18
     have HA18:Hid (w18.ownsRow w.heap.size 3 1 v18 (cs++[sc]).length (intsV (cs++[sc]))):=Yo26
     have HO:=Lib.hid (HO.out.growC HG18.out HA18.out HW18.out)
     obtain ⟨ya,yc,hx⟩:∃ a c,v18 = .slice a (cs.length+1) c:=by obtain ⟨a,c,h⟩:=Row.form (Row.of_owns HA18.out);exact ⟨a,c,by rw [h,List.length_append];rfl⟩
     subst hx
     refine AnyT.go_on hK _ _ ?_ (fun hHeld21=>?_)
     ·(try dsimp only)
      exact HO.out.facts
     clear hK K
     try simp only [AnyT.pt]
     refine YP 25 (h:=YT 26 (h:=YT 27 (h:=YP 28 (h:=?_))))
     refine YR 29 (h:=fun K hK=>?_)
     refine step_slice1v (by rfl) elemBool (.tmp 66) (by rfl) (.bool true) (by rfl) (by rfl) ?_
     have HZ29:Hid ((w18.alloc (.cells #[.bool true] 4)).heap[w18.heap.size]?=some (.cells #[.bool true] 4 (0,0))):=heap_new w18 _
     have hal:=below_alloc w18 (.cells #[.bool true] 4)
     have HO:=Lib.hid (HO.out.below hal)
     clear hal
     refine AnyT.go_on hK _ _ ?_ (fun hHeld22=>?_)
     ·(try dsimp only)
      exact HO.out.facts
     clear hK K
     try simp only [AnyT.pt]
     refine YR 30 (h:=fun K hK=>?_)
     refine step_appW (by rfl) (.tmp 60) (.tmp 67) 122 (by rfl) w.heap.size elemBool (.slice qa qs.length qc) qs.length (boolsV qs) (by rfl) HO.out.quiet ((w18).heap.size) 1 1 [.bool true] (by rfl) (row_one HZ29.out) rfl Yo10 (by decide) (by omega) (by omega) HO.out.bel.size ?_
     intro v30 w30 HO30 HG30 HW30
     have HA30:Hid (w30.ownsRow w.heap.size 4 1 v30 (qs++[true]).length (boolsV (qs++[true]))):=Yo24
     exact Yx76
   case rest=>
    obtain ⟨w9,rfl⟩:∃ W:World,W=wc:=⟨_,rfl⟩
    obtain ⟨wv,cv,qv,ho⟩:=hcut
    clear HO
    have HO:=Lib.hid ho
    clear ho
    have HR:Hid (VRows w9 wv cv qv (statesV L (⟨p,sr,(nb:Int),f⟩:Life) (j+1))):=HO.out.rows (by rw [statesV_succ,List.map_append,HWS.out,←HS1.out];rfl) (by rw [statesV_succ,List.map_append,HCS.out,←HS1.out];rfl) (by rw [statesV_succ,List.map_append,HQS.out,←HS1.out];rfl)
    have HVB:Hid (VB w9 V k _ _ _ _ L (⟨p,sr,(nb:Int),f⟩:Life) wv cv qv):=VB.of HBK.out HO.out.bel HO.out.view
    have b0:w9.cell? ⟨k,0,none⟩=some (.slice (some ⟨g,o,none⟩) L.length c):=by rw [←HOV.out,cell_of HVB.out.book 0];rfl
    have EW:Hid (ws++[sw]=(statesV L (⟨p,sr,(nb:Int),f⟩:Life) (j+1)).map VS.want):=by show _=_;rw [statesV_succ,List.map_append,HWS.out,←HS1.out];rfl
    have EC:Hid (cs++[sc]=(statesV L (⟨p,sr,(nb:Int),f⟩:Life) (j+1)).map VS.cur):=by show _=_;rw [statesV_succ,List.map_append,HCS.out,←HS1.out];rfl
    have EQ:Hid (qs++[sp || sm]=(statesV L (⟨p,sr,(nb:Int),f⟩:Life) (j+1)).map VS.quiet):=by show _=_;rw [statesV_succ,List.map_append,HQS.out,←HS1.out];rfl
    by_cases hjl:j<L.length
    ·have CN:=Lib.hid (Vnext_any HVB.out hjl (HR.out.at (statesV_at L (⟨p,sr,(nb:Int),f⟩:Life) (Nat.lt_succ_self j))))
     have HNX:Hid (nextV L (⟨p,sr,(nb:Int),f⟩:Life) (stateV L (⟨p,sr,(nb:Int),f⟩:Life) j) j=stateV L (⟨p,sr,(nb:Int),f⟩:Life) (j+1)):=rfl
     rw [←HS1.out] at CN HNX
     rw [HNX.out] at CN
     have kT:w9.heap[T]?=some (.cells #[.int .i64 sw,.int .i64 sc,.bool sp,.bool sm] 202 (0,0)):=HO.out.st
     have hjI:(j:Int)<(L.length:Int):=Int.ofNat_lt.2 hjl
     generalize hS2:stateV L (⟨p,sr,(nb:Int),f⟩:Life) (j+1)=s2 at *
     have HS2:=Lib.hid hS2
     clear hS2 HNX HS1 HS HR HVB
     obtain ⟨tw,tc,tp,tm⟩:=s2
     dsimp only [stCells] at CN
     go_wp2_with (first|(with_reducible refine load_at 202 (.tmp 6) rfl ?_;refine load_rowTo2 rfl 202 (.tmp 6) rfl T rfl 202 #[.int .i64 sw,.int .i64 sc,.bool sp,.bool sm] (0,0) _ kT Tryz.underlying202 rfl Yo3 ?_)|(go_at_call 114;refine CN.out.mono ?_;rintro e w10 ⟨rfl,hb10⟩;have HO2:=Lib.hid (HO.out.below hb10);have kT2:w10.heap[T]?=some (.cells #[.int .i64 sw,.int .i64 sc,.bool sp,.bool sm] 202 (0,0)):=HO2.out.st;clear kT b0 hb10)|(with_reducible refine store_at 202 (.tmp 6) (.tmp 85) rfl ?_;refine store_rowTo2 rfl 202 (.tmp 6) (.tmp 85) rfl rfl T #[.int .i64 tw,.int .i64 tc,.bool tp,.bool tm] rfl rfl 202 #[.int .i64 sw,.int .i64 sc,.bool sp,.bool sm] kT2 Yo3 Yo3 Yo3 ?_))
     go_roundw
     case rel=>exact ⟨j+1,⟨tw,tc,tp,tm⟩,wv,cv,qv,by omega,by go_num,by rw [Nat.min_eq_left (by omega),HS2.out],by rw [←EW.out,←EC.out,←EQ.out];exact HO2.out.setT ⟨tw,tc,tp,tm⟩⟩
     case measure=>simp [intOf];omega
    ·have hjj:j=L.length:=by omega
     have dl:decide ((j:Int)<(L.length:Int))=false:=decide_eq_false (by omega)
     have dl2:decide (j<L.length)=false:=decide_eq_false (by omega)
     clear hjl
     have HJ:=Lib.hid hjj
     clear hjj
     go_wp2_with fail
     go_roundw
     case rel=>exact ⟨j+1,⟨sw,sc,sp,sm⟩,wv,cv,qv,by omega,by go_num,by rw [HS1.out,HJ.out,Nat.min_eq_right (by omega)],by rw [←EW.out,←EC.out,←EQ.out];exact HO.out⟩
     case measure=>simp [intOf];omega
  ·have hjj:j=L.length+1:=by omega
   have dj:decide ((j:Int)<(L.length:Int)+1)=false:=decide_eq_false (by omega)
   have HJ:=Lib.hid hjj
   clear hjj hjn
   go_wp2_with fail
   go_ret
   exact ⟨⟨V,wv,cv,qv,rfl,VB.of HBK.out HO.out.bel HO.out.view,HO.out.rows (by rw [HJ.out]) (by rw [HJ.out]) (by rw [HJ.out])⟩,HO.out.bel⟩
end Go.Proofs.By
