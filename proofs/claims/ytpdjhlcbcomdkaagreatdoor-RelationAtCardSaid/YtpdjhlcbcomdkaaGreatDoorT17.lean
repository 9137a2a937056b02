/- Part of a proof. -/
import Derived.Test.YtpdjhlcbcomdkaaGreatDoorChecked
import Derived.Test.YtpdjhlcbcomdkaaGreatDoorT16
set_option linter.unusedVariables false
set_option linter.unusedSimpArgs false
set_option maxRecDepth 100000
set_option maxHeartbeats 16000000
open Go Go.Q Go.Qr Go.Proofs.Tryz
namespace Go.Proofs.By
open Go.RowKit Go.Proofs.Heap
theorem BN(l:List Int):(YN l).length=l.length:=Tx _
theorem JQ(l:List Int):∀u∈YN l,u.oneCell'=true:=by
 intro u hu;obtain⟨x,_,rfl⟩:=wI.1 hu;rfl
theorem LQ{w:World}{base:Nat}{e:TypeId}{size:Nat}{v:Value}{n:Nat}{xs:List Value}(h:w.ownsRow base e size v n xs)(hn:0<n):∃g cap cur,v = .slice (some ⟨g,0,none⟩) n cap∧base≤g∧w.heap[g]?=some (.cells cur e):=by
 obtain⟨_,h⟩:=h;rcases h with⟨_,h⟩|⟨g,cap,cur,hv,hg,hh,h1,h2,h3,h4⟩
 ·omega
 ·exact⟨g,cap,cur,hv,hg,hh⟩
theorem O8{w:World}{base:Nat}{e:TypeId}{size:Nat}{n:Nat}{xs:List Value}{g cap:Nat}(h:w.ownsRow base e size (.slice (some ⟨g,0,none⟩) n cap) n xs)(hn:0<n)(i:Nat)(u:Value):(w.setCell ⟨g,i,none⟩ u).ownsRow base e size (.slice (some ⟨g,0,none⟩) n cap) n (xs.set i u):=by
 exact Yx92
theorem yN(u:Value):∀(Q:List RF) (k:Nat) (hk:k<Q.length),(Q.flatMap YU).set (k*10+6) u=(Q.set k {Q[k]with bv:=u}).flatMap YU
 | [],k,hk=>by simp at hk
 | x :: Q,0,_=>by simp[YU]
 | x :: Q,k+1,hk=>by
  have ih:=yN u Q k (by simpa using hk);rw[List.flatMap_cons,List.set_append_right _ _ (by show 10≤_;omega),List.set_cons_succ,List.flatMap_cons];have:(k+1)*10+6-(YU x).length=k*10+6:=by show _-10=_;omega
  rw[this,ih];rfl
theorem yO(u:Value):∀(Q:List RF) (k:Nat) (hk:k<Q.length),(Q.flatMap YU).set (k*10+7) u=(Q.set k {Q[k]with gv:=u}).flatMap YU
 | [],k,hk=>by simp at hk
 | x :: Q,0,_=>by simp[YU]
 | x :: Q,k+1,hk=>by
  have ih:=yO u Q k (by simpa using hk);rw[List.flatMap_cons,List.set_append_right _ _ (by show 10≤_;omega),List.set_cons_succ,List.flatMap_cons];have:(k+1)*10+7-(YU x).length=k*10+7:=by show _-10=_;omega
  rw[this,ih];rfl
theorem yP(u:Value):∀(Q:List RF) (k:Nat) (hk:k<Q.length),(Q.flatMap YU).set (k*10+9) u=(Q.set k {Q[k]with pv:=u}).flatMap YU
 | [],k,hk=>by simp at hk
 | x :: Q,0,_=>by simp[YU]
 | x :: Q,k+1,hk=>by
  have ih:=yP u Q k (by simpa using hk);rw[List.flatMap_cons,List.set_append_right _ _ (by show 10≤_;omega),List.set_cons_succ,List.flatMap_cons];have:(k+1)*10+9-(YU x).length=k*10+9:=by show _-10=_;omega
  rw[this,ih];rfl
theorem ie(Q:List RF)(k:Nat)(hk:k<Q.length)(b g p:Value):(((Q.flatMap YU).set (k*10+6) b).set (k*10+7) g).set (k*10+9) p=(Q.set k ⟨Q[k].i,b,g,p⟩).flatMap YU:=by
 rw[yN b Q k hk,yO g _ k (by rw[List.length_set];exact hk),yP p _ k (by rw[List.length_set,List.length_set];exact hk)];simp[List.set_set]
theorem uO{w:World}{a:Option Addr}{n c:Nat}{l:List RF}(h:Row w 173 (.slice a n c) n (l.flatMap YU))(hl:0<l.length):∃g off,a=some ⟨g,off,none⟩∧∀(i:Nat) (x:RF),l[i]?=some x→∀j,j<10→w.cell? ⟨g,off+i*10+j,none⟩=(YU x)[j]?:=by
 have wK:=XN YU 10 (fun _=>rfl) l;obtain⟨g,off,cap,h1,h2,h3,h4,h5⟩:=Row.open h (by rw[wK];omega);injection h1 with e1 _ _
 refine⟨g,off,e1,fun i x hx j hj=>?_⟩;have hi:i<l.length:=(List.getElem?_eq_some_iff.1 hx).1;rw[Nat.add_assoc,h5 (i*10+j) (by rw[wK];omega)];exact Mu YU 10 (fun _=>rfl) l i j x hx hj
theorem Ue.setAt{w:World}{x:RF}(h:Ue w x){g:Nat}{c:Array Value}{f:Nat×Nat}(hg:w.heap[g]?=some (.cells c 173 f))(o:Nat)(u:Value):Ue (w.setCell ⟨g,o,none⟩ u) x:=by
 have hf:Fr w (· = g) w (w.setCell ⟨g,o,none⟩ u):=(Fr.refl _ _ _).setAt _ _
 have WN:∀e,173≠e→∀k c fr,k=g→w.heap[k]?≠some (.cells c e fr):=by
  intro e he k c fr hk hc;rw[hk,hg]at hc;injection hc with hc
  injection hc with _ hc
  exact he hc
 exact h.wJ hf (WN _ Zd) (WN _ Zd) (WN _ Zd)
theorem mG{x:RF}(h1:∃a n c,x.bv = .slice a n c)(h2:∃a n c,x.gv = .slice a n c)(h3:∃a n c,x.pv = .slice a n c):∀u∈YU x,u.oneCell'=true:=by
 obtain⟨i,bv,gv,pv⟩:=x;obtain⟨_,_,_,h1⟩:=h1;obtain⟨_,_,_,h2⟩:=h2;obtain⟨_,_,_,h3⟩:=h3;dsimp only at h1 h2 h3;subst h1;subst h2;subst h3;intro u hu;simp only[YU,J9,List.mem_nil_iff,or_false]at hu;rcases hu with rfl|rfl|rfl|rfl|rfl|rfl|rfl|rfl|rfl|rfl <;> rfl
theorem U6{α:Type}{f:α→List Value}{l:List α}(h:∀x∈l,∀u∈f x,u.oneCell'=true):∀u∈l.flatMap f,u.oneCell'=true:=by
 intro u hu;obtain⟨x,hx,hu⟩:=List.mem_flatMap.1 hu;exact h x hx u hu
theorem AQ(x:oD):∀u∈W_ x,u.oneCell'=true:=by
 intro u hu;simp only[W_,J9,List.mem_nil_iff,or_false]at hu;rcases hu with rfl|rfl|rfl|rfl|rfl|rfl|rfl <;> rfl
theorem y_(x:Int×Int):∀u∈Wb x,u.oneCell'=true:=by
 intro u hu;simp only[Wb,J9,List.mem_nil_iff,or_false]at hu;rcases hu with rfl|rfl <;> rfl
theorem Ay(v:Value)(l:List Ru)(w:World)(hv:YH w v l)(We:∀i∈l,Tf i)(hl:l.length≤1000) :
  Calls prog 129 #[v] w fun e w'=>(∃v',e = .returned v'∧YH w' v' l)∧Below w w w':=by
 obtain⟨L,rfl,ZW,Pt⟩:=hv;rw[Tx]at hl;have Px:Hid (∀Q:List RF,Q.map (·.i)=L.map (·.i)→∀x∈Q,Tf x.i):=fun Q hQ x hx=>We x.i (by rw[←hQ];exact wI.2 ⟨x,hx,rfl⟩)
 have CC:=Zh (D7 v L.length (L.flatMap YU) w ZW (XN YU 10 (fun _=>rfl) L) (U6 fun x hx=>by
  obtain⟨_,_,h1⟩:=Row.form (Pt x hx).b;obtain⟨_,_,h2⟩:=Row.form (Pt x hx).g;obtain⟨_,_,h3⟩:=Row.form (Pt x hx).p
  exact mG ⟨_,_,_,h1⟩ ⟨_,_,_,h2⟩ ⟨_,_,_,h3⟩) Zo)
 have EZ:=Zh Pt;clear ZW Pt We;go_enter func129,ntmps129
 go_upto_block 3 with(go_at_call 157;refine CC.o.mono ?_;rintro e w1 ⟨⟨v1,rfl,ho1⟩,YZ⟩;obtain⟨va,vc,aL,-⟩:=Row.Z4 ho1;subst aL;have Ao:=Zh ho1;have VN:=Zh YZ;clear ho1 YZ)
 go_loopw [9] (fun s9 w'=>∃(j:Nat) (Q:List RF),j≤L.length∧s9 = .int .i64 (j:Int)∧Q.map (·.i)=L.map (·.i)∧w'.ownsRow w 173 10 (.slice va L.length vc) L.length (Q.flatMap YU)∧(∀x∈Q,Ue w' x)∧Below w w w') (fun s9 _=>L.length-(intOf s9).toNat)
 case atStart=>exact⟨0,L,Zo,rfl,rfl,Ao.o,fun x hx=>(EZ.o x hx).below VN.o,VN.o⟩
 case round=>
  obtain⟨j,Q,hj,rfl,hQ,YG,Pt,Xz⟩:=hrel;have hQl:Q.length=L.length:=by have h:=congrArg List.length hQ;rwa[Tx,Tx]at h
  have HQ:=Zh hQ;have Sv:=Zh Xz;have Yk:=Zh YG;have Hb:=Zh Pt;have Uk:=Xz.size;clear Xz Pt hQ CC Ao EZ VN;by_cases RN:j<L.length
  ·obtain⟨g,cap,cur,e1,hwg,Ij⟩:=LQ YG Zo;cases e1;obtain⟨g',off',e2,V7⟩:=uO (Row.Z4 YG) Zo;cases e2;have hjq:j<Q.length:=by omega
   have V7:=V7 j Q[j] (Ve hjq);have L6:=Hb.o Q[j] (OC hjq);have We:=Px.o Q HQ.o Q[j] (OC hjq);have HQJ:Hid (∀b g p,(((Q.flatMap YU).set (j*10+6) b).set (j*10+7) g).set (j*10+9) p=(Q.set j ⟨Q[j].i,b,g,p⟩).flatMap YU):=fun b g p=>ie Q j hjq b g p
   have HMAP:Hid (∀b g p,(Q.set j ⟨Q[j].i,b,g,p⟩).map (·.i)=Q.map (·.i)):=fun b g p=>by
    rw[List.map_set];apply List.ext_getElem
    ·rw[List.length_set]
    ·intro m h1 h2;rw[List.getElem_set];split
     ·rename_i h;subst h;simp
     ·rfl
   clear YG;generalize hxq:Q[j]=x at *
   have HQX:Hid (Q[j]?=some x):=by show _=_;rw[Ve hjq,hxq]
   clear hxq;obtain⟨i,bv,gv,pv⟩:=x;obtain⟨ba,bc,lC⟩:=Row.form L6.b;obtain⟨ga,gc,uE⟩:=Row.form L6.g;obtain⟨pa,pc,My⟩:=Row.form L6.p;dsimp only at lC uE My We HQJ HMAP;subst lC;subst uE;subst My;have c0:=V7 0 Zo;have c1:=V7 1 Zo;have c2:=V7 2 Zo;have c3:=V7 3 Zo;have c4:=V7 4 Zo;have c5:=V7 5 Zo;have c6:=V7 6 Zo;have c7:=V7 7 Zo;have c8:=V7 8 Zo;have c9:=V7 9 Zo;simp only[YU,Sy,R4,PW,Z1g]at c0 c1 c2 c3 c4 c5 c6 c7 c8 c9;have Cy:(j:Int)<(L.length:Int):=P6.2 RN;have zZ:g<wr.heap.size:=ZX Ij;have hz:=Z9 wr (.cells Ya 173);have NK:=setRow_heap _ _ _ (Js i ba bc ga gc pa pc) _ _ hz;have Yg:Hid (Below wr wr ((wr.alloc (.cells Ya 173)).setRow wr (Js i ba bc ga gc pa pc))):=Z0 (Z' wr _) (Zw _) _;have wz:=Zh L6;have hob:=We.b;have hog:=We.g;have Ab:=We.p;clear V7 L6 We;go_upto_region 5 with(with_reducible refine Zs hz ?_)
   clear hz c0 c1 c2 c3 c4 c5 c6 c7 c8 c9;generalize((wr.alloc (.cells Ya 173)).setRow wr (Js i ba bc ga gc pa pc))=w2 at *
   have js:Hid (∀w',Below w2 w2 w'→Calls prog 158 #[.slice ba i.blocks.length bc] w' fun e w''=>(∃v',e = .returned v'∧w''.ownsRow w' 228 7 v' i.blocks.length (i.blocks.flatMap W_))∧Below w' w' w''):=fun w' h=>DW _ _ _ w' (Row.below (Row.below wz.o.b Yg.o) h) (XN W_ 7 (fun _=>rfl) _) (U6 fun x _=>AQ x) Zo
   have eo:Hid (∀w',Below w2 w2 w'→Calls prog 112 #[.slice ga i.gone.length gc] w' fun e w''=>(∃v',e = .returned v'∧w''.ownsRow w' 66 1 v' i.gone.length (YN i.gone))∧Below w' w' w''):=fun w' h=>D9 _ _ _ w' (Row.below (Row.below wz.o.g Yg.o) h) (by rw[BN];omega) (JQ _) Zo
   have HCP:Hid (∀w',Below w2 w2 w'→Calls prog 159 #[.slice pa i.Xo.length pc] w' fun e w''=>(∃v',e = .returned v'∧w''.ownsRow w' 226 2 v' i.Xo.length (i.Xo.flatMap Wb))∧Below w' w' w''):=fun w' h=>D8 _ _ _ w' (Row.below (Row.below wz.o.p Yg.o) h) (XN Wb 2 (fun _=>rfl) _) (U6 fun x _=>y_ x) Zo
   have GY:wr.heap.size<w2.heap.size:=ZX NK
   have ZB:Hid (∀w':World,w'.heap[wr.heap.size]?=w2.heap[wr.heap.size]?→w'.cell? ⟨wr,6,none⟩=some (.slice ba i.blocks.length bc)∧w'.cell? ⟨wr,7,none⟩=some (.slice ga i.gone.length gc)∧w'.cell? ⟨wr,9,none⟩=some (.slice pa i.Xo.length pc)):=fun w' h=>
    ⟨Zc (h.trans NK) 6 rfl,Zc (h.trans NK) 7 rfl,Zc (h.trans NK) 9 rfl⟩
   refine R5 ?_;refine wp_region_held_drew (S:=(fun w'=>w'.cell? ⟨wr,6,none⟩=some (.slice ba i.blocks.length bc)∧w'.cell? ⟨wr,7,none⟩=some (.slice ga i.gone.length gc)∧w'.cell? ⟨wr,9,none⟩=some (.slice pa i.Xo.length pc))) X_ ?_ (fun _=>?_)
   ·exact ZB.o _ rfl
   refine YA 0 (h:=YA 1 (h:=YA 2 (h:=YA 3 (h:=YA 4 (h:=YA 5 (h:=YA 6 (h:=YA 7 (h:=YA 9 (h:=YA 10 (h:=YA 12 (h:=YA 13 (h:=?_))))))))))));refine R3 8 (h:=fun K hK=>?_);go_simp;refine(js.o _ (YI _ _).drew).mono ?_;rintro e w3 ⟨⟨bv,rfl,ho⟩,hb⟩;obtain⟨pM,pN,h_,-⟩:=Row.Z4 ho;subst h_;have eK:=Zh (Row.Z4 ho);have WU:Hid (Below w2 w2 w3):=(YI w2 w2).drew.trans hb;have Nn:Hid (w3.heap[wr.heap.size]?=w2.heap[wr.heap.size]?):=WU.o.block _ GY;clear ho hb;go_wp2_with fail
   refine hK.out _ _ ?_ (fun _=>?_)
   ·exact pG
   clear hK K;try simp only[Z_.pt]
   refine R3 11 (h:=fun K hK=>?_);go_simp;refine(eo.o _ WU.o).mono ?_;rintro e w4 ⟨⟨gv,rfl,ho⟩,hb⟩;obtain⟨gb,gf,h_,-⟩:=Row.Z4 ho;subst h_;have HO4:=Zh (Row.Z4 ho);have HB34:Hid (Below w3 w3 w4):=hb;have Va:Hid (Below w2 w2 w4):=Tr WU hb;have iM:Hid (w4.heap[wr.heap.size]?=w2.heap[wr.heap.size]?):=Va.o.block _ GY;clear ho hb;go_wp2_with fail
   refine hK.out _ _ ?_ (fun _=>?_)
   ·exact pG
   clear hK K;try simp only[Z_.pt]
   refine R3 14 (h:=fun K hK=>?_);go_simp;refine(HCP.o _ Va.o).mono ?_;rintro e w5 ⟨⟨pv,rfl,ho⟩,hb⟩;obtain⟨pa',pc',h_,-⟩:=Row.Z4 ho;subst h_;have bK:=Zh (Row.Z4 ho);have HB45:Hid (Below w4 w4 w5):=hb;have P5:Hid (Below w2 w2 w5):=Tr Va hb;have jU:Hid (w5.heap[wr.heap.size]?=w2.heap[wr.heap.size]?):=P5.o.block _ GY;have jr:Hid (Below wr wr w5):=Tr Yg P5.o;have yA:w5.heap[g]?=some (.cells cur 173):=(jr.o.block g zZ).trans Ij;have h5o:=Yv Yk.o jr.o;obtain⟨g5,off5,e3,pX⟩:=uO (Row.Z4 h5o) Zo;cases e3;have pX:=pX j _ HQX.o;have k6:=pX 6 Zo;have k7:=pX 7 Zo;have k9:=pX 9 Zo;simp only[YU,Sy,R4,PW]at k6 k7 k9;have f6:w5.frozen? ⟨g,j*10+6,none⟩=false:=ZP yA _;have f7:w5.frozen? ⟨g,j*10+7,none⟩=false:=ZP yA _;have f9:w5.frozen? ⟨g,j*10+9,none⟩=false:=ZP yA _;have hxg:wr.heap.size≠g:=by omega
   clear ho hb pX;go_wp2_with fail
   refine hK.out _ _ ?_ (fun _=>?_)
   ·exact pG
   clear hK K;try simp only[Z_.pt]
   refine YA 15 (h:=YA 16 (h:=?_));refine R3 17 (h:=fun K hK=>?_);go_simp;have HX6:Hid ((w5.setCell ⟨g,j*10+6,none⟩ (.slice pM i.blocks.length pN)).heap[wr.heap.size]?=w2.heap[wr.heap.size]?):=(Mg w5 ⟨g,j*10+6,none⟩ _ wr hxg).trans jU.o;have k7':(w5.setCell ⟨g,j*10+6,none⟩ (.slice pM i.blocks.length pN)).cell? ⟨g,j*10+7,none⟩=some (.slice ga i.gone.length gc):=(World.cell?_setCell_other _ _ _ _ Zi).trans k7;have f7':(w5.setCell ⟨g,j*10+6,none⟩ (.slice pM i.blocks.length pN)).frozen? ⟨g,j*10+7,none⟩=false:=ZP (VH yA _ _) _;refine hK.out _ _ ?_ (fun _=>?_)
   ·exact pG
   clear hK K;try simp only[Z_.pt]
   refine YA 18 (h:=YA 19 (h:=?_));refine R3 20 (h:=fun K hK=>?_);go_simp;have HX7:Hid (((w5.setCell ⟨g,j*10+6,none⟩ (.slice pM i.blocks.length pN)).setCell ⟨g,j*10+7,none⟩ (.slice gb i.gone.length gf)).heap[wr.heap.size]?=w2.heap[wr.heap.size]?):=(Mg (w5.setCell ⟨g,j*10+6,none⟩ (.slice pM i.blocks.length pN)) ⟨g,j*10+7,none⟩ _ wr hxg).trans HX6.o;have k9':((w5.setCell ⟨g,j*10+6,none⟩ (.slice pM i.blocks.length pN)).setCell ⟨g,j*10+7,none⟩ (.slice gb i.gone.length gf)).cell? ⟨g,j*10+9,none⟩=some (.slice pa i.Xo.length pc):=(World.cell?_setCell_other _ _ _ _ Zi).trans ((World.cell?_setCell_other _ _ _ _ Zi).trans k9);have f9':((w5.setCell ⟨g,j*10+6,none⟩ (.slice pM i.blocks.length pN)).setCell ⟨g,j*10+7,none⟩ (.slice gb i.gone.length gf)).frozen? ⟨g,j*10+9,none⟩=false:=ZP (VH (VH yA _ _) _ _) _;refine hK.out _ _ ?_ (fun _=>?_)
   ·exact pG
   clear hK K;try simp only[Z_.pt]
   refine YA 21 (h:=YA 22 (h:=?_));refine R3 23 (h:=fun K hK=>?_);go_simp;have HX8:Hid ((((w5.setCell ⟨g,j*10+6,none⟩ (.slice pM i.blocks.length pN)).setCell ⟨g,j*10+7,none⟩ (.slice gb i.gone.length gf)).setCell ⟨g,j*10+9,none⟩ (.slice pa' i.Xo.length pc')).heap[wr.heap.size]?=w2.heap[wr.heap.size]?):=(Mg ((w5.setCell ⟨g,j*10+6,none⟩ (.slice pM i.blocks.length pN)).setCell ⟨g,j*10+7,none⟩ (.slice gb i.gone.length gf)) ⟨g,j*10+9,none⟩ _ wr hxg).trans HX7.o;refine hK.out _ _ ?_ (fun _=>?_)
   ·exact pG
   clear hK K;try simp only[Z_.pt]
   refine wpAnyH_done X_ ?_ _;refine QZ ?_;go_wp2_with fail
   go_roundw
   case rel=>
    have e0:Below w w w5:=Sv.o.trans (jr.o.mono Uk);have e1:Below w w (((w5.setCell ⟨g,j*10+6,none⟩ (.slice pM i.blocks.length pN)).setCell ⟨g,j*10+7,none⟩ (.slice gb i.gone.length gf)).setCell ⟨g,j*10+9,none⟩ (.slice pa' i.Xo.length pc')):=((((Fr.Z6 Pz e0).setCell (p:=⟨g,j*10+6,none⟩) (WO hwg) _).setCell (p:=⟨g,j*10+7,none⟩) (WO hwg) _).setCell (p:=⟨g,j*10+9,none⟩) (WO hwg) _).below;have e2:=O8 (O8 (O8 h5o Zo (j*10+6) (.slice pM i.blocks.length pN)) Zo (j*10+7) (.slice gb i.gone.length gf)) Zo (j*10+9) (.slice pa' i.Xo.length pc');rw[HQJ.o]at e2;have g6:=VH yA (j*10+6) (.slice pM i.blocks.length pN);have g7:=VH g6 (j*10+7) (.slice gb i.gone.length gf);refine⟨j+1,_,Zo,Zn,(HMAP.o _ _ _).trans HQ.o,e2,fun x hx=>?_,e1⟩;rcases List.mem_or_eq_of_mem_set hx with hx|rfl
    ·exact((((Hb.o x hx).below jr.o).setAt yA _ _).setAt g6 _ _).setAt g7 _ _
    ·have hn:Ue w5 ⟨i,(.slice pM i.blocks.length pN),(.slice gb i.gone.length gf),(.slice pa' i.Xo.length pc')⟩:=⟨Row.below (Row.below eK.o HB34.o) HB45.o,Row.below HO4.o HB45.o,bK.o⟩;exact((hn.setAt yA _ _).setAt g6 _ _).setAt g7 _ _
   case measure=>simp[intOf];omega
  ·have Mi:j=L.length:=by omega
   have HMQ:Hid (YH wr (.slice va L.length vc) (L.map (·.i))):=⟨Q,HQ.o.symm,by rw[hQl];exact Row.Z4 Yk.o,Hb.o⟩;clear YG;go_wp2;go_ret;exact⟨⟨_,rfl,HMQ.o⟩,Sv.o⟩
theorem pL{b:List UInt8}(h:b.length<2):at8 b 1=0:=by
 unfold at8;rw[Q_,List.getElem?_eq_none Zo];rfl
theorem vK(v:Value)(b:List UInt8)(w:World)(hv:X5 w v b) :
  Calls prog 105 #[v] w fun e w'=>(∃a,e = .returned (.tuple #[a,.int .i64 (XY b).2])∧tC w' a (XY b).1)∧Below w w w':=by
 by_cases h3:192≤at8 b 1∧at8 b 1≤223
 rotate_left
 ·exact K8 v b w hv h3
 have hlen:=hv.len;have h2:¬b.length<2:=fun h=>by rw[pL h]at h3;omega
 by_cases h1:512<b.length
 ·have HX:Hid (XY b=(.none,5)):=by show _=_;unfold XY;rw[ZU h1]
  exact Yx74
 have HX:Hid (XY b=if(Yq b).2≠0 then(.none,(Yq b).2)else(.Yb (Yq b).1,0)):=by
  show _=_
  conv=>lhs;unfold XY
  rw[Z3 h1,Z3 h2,ZU h3]
 have HC:=Zh (zx v b w hv);obtain⟨g,off,c,rfl,RV,yD,WX⟩:=RI hv Zo;have d1:=WX 1 Zo;clear WX hv RV yD;have hbI:(1:Int)<(b.length:Int):=by omega
 have hbN:1<b.length:=by omega
 generalize XY b=X at *
 generalize Yq b=Y at *
 obtain⟨L,er⟩:=Y;dsimp only at HC HX;have dH:=fun(x:Value) (w:World)=>run_makeInterface (P:=prog) w 213 x X_
 obtain⟨qd,Bb⟩:=h3;generalize at8 b 1=kd at *
 have l1:decide ((192:Int)≤(kd:Int))=true:=Ww Zo;have l2:decide ((kd:Int)≤223)=true:=Ww Zo;go_enter func105,ntmps105;go_upto_region 7 with(go_at_call 124;refine HC.o.mono ?_;rintro e w2 ⟨⟨iv,rfl,hit⟩,Zb⟩;obtain⟨ia,ic,Cx⟩:=YH.form hit;subst Cx;have Hb:=Zh hit;have Yg:=Zh Zb;clear hit Zb)
 clear HC;by_cases RM:er=0
 ·subst RM;rw[Z3 Zi]at HX;go_wp2_with fail
  go_ret2
  exact⟨⟨_,by rw[HX.o];rfl,by rw[HX.o];exact⟨_,rfl,Hb.o⟩⟩,Yg.o⟩
 ·have bl:(er !=0)=true:=by rw[RH];exact RM
  have bl2:(er==0)=false:=by rw[WM];exact RM
  rw[ZU RM]at HX;go_wp2_with fail
  go_ret2
  exact⟨⟨.nilIface,by rw[HX.o];rfl,by rw[HX.o];rfl⟩,Yg.o⟩
end Go.Proofs.By
namespace Go.Proofs.By
open Go.RowKit Go.Proofs.Heap
theorem xN(v:Value)(w:World):(Instr.typeAssert (.iface 213 v) 188 97 true).run prog w = .ok (.tuple (Q0 TL false)) w:=by kernel_rfl
theorem fM(v:Value)(w:World):(Instr.typeAssert (.iface 213 v) 188 213 true).run prog w = .ok (.tuple #[v,.bool true]) w:=by kernel_rfl
theorem Gf{P:Program}{fn:Func}{p q u:Tmp}{t1 t2:TypeId}(h:fn.results=#[.cell p t1,.cell q t2,.tmp u])(tmps:Array Value)(w:World)(g1 g2:Nat)(e1 e2:TypeId)(c1 c2:Array Value)(f1 f2:Nat×Nat)(d1 d2:TypeDesc)
  (hp:tmps.getD p undef = .pointer (some ⟨g1,0,none⟩)) (hg:w.heap[g1]?=some (.cells c1 e1 f1)) (hu:P.underlying t1=some d1) (hd:(match d1 with | .struct _ | .array _ _=>true|_=>false)=true) (hi:(P.info? t1).map (·.size)=some c1.size)
  (hp2:tmps.getD q undef = .pointer (some ⟨g2,0,none⟩)) (lG:w.heap[g2]?=some (.cells c2 e2 f2)) (hu2:P.underlying t2=some d2) (oh:(match d2 with | .struct _ | .array _ _=>true|_=>false)=true) (hi2:(P.info? t2).map (·.size)=some c2.size) :
  (results fn tmps).run P w = .ok (.tuple #[.agg c1,.agg c2,tmps.getD u undef]) w:=by
 have qj:tmps[p]?.getD undef = .pointer (some ⟨g1,0,none⟩):=by simpa using hp
 have gX:tmps[q]?.getD undef = .pointer (some ⟨g2,0,none⟩):=by simpa using hp2
 simp[results,h,qj,gX,asAddr,run_loadVar_row w g1 e1 t1 c1 f1 d1 hg hu hd hi,run_loadVar_row w g2 e2 t2 c2 f2 d2 lG hu2 oh hi2]
theorem jm(iv:Value)(l:List Ru)(w:World)(hv:YH w iv l)(We:∀i∈l,Tf i)(hl:l.length≤1000) :
  Calls prog 107 #[.iface 213 (.agg #[iv])] w fun e w'=>(∃v',e = .returned (.tuple #[.agg U2,.agg (Qd 0 false false 0),v'])∧YH w' v' l)∧Below w w w':=by
 obtain⟨ia,ic,rfl⟩:=YH.form hv;have CO:=Zh (fun(w':World) (h:Below w w w')=>Ay (.slice ia l.length ic) l w' (hv.below h) We hl);have as1:=xN;have as2:=fM;have e1:(w.alloc (.cells U2 79)).heap.size=w.heap.size+1:=by show(w.heap.push _).size=_;rw[Ou]
 have e2:((w.alloc (.cells U2 79)).alloc (.cells (Qd 0 false false 0) 81)).heap.size=w.heap.size+2:=by show((w.heap.push _).push _).size=_;rw[Ou,Ou]
 have e3:(((w.alloc (.cells U2 79)).alloc (.cells (Qd 0 false false 0) 81)).alloc (.cells TL 97)).heap.size=w.heap.size+3:=by show(((w.heap.push _).push _).push _).size=_;rw[Ou,Ou,Ou]
 have hP:(((w.alloc (.cells U2 79)).alloc (.cells (Qd 0 false false 0) 81)).alloc (.cells TL 97)).heap[w.heap.size]?=some (.cells U2 79 (0,0)):=by
  rw[(Z' ((w.alloc (.cells U2 79)).alloc (.cells (Qd 0 false false 0) 81)) _).block _ (by rw[e2];omega),(Z' (w.alloc (.cells U2 79)) _).block _ (by rw[e1];omega)];exact Z9 w _
 have hD:(((w.alloc (.cells U2 79)).alloc (.cells (Qd 0 false false 0) 81)).alloc (.cells TL 97)).heap[w.heap.size+1]?=some (.cells (Qd 0 false false 0) 81 (0,0)):=by
  rw[(Z' ((w.alloc (.cells U2 79)).alloc (.cells (Qd 0 false false 0) 81)) _).block _ (by rw[e2];omega)];have h:=Z9 (w.alloc (.cells U2 79)) (.cells (Qd 0 false false 0) 81);rw[e1]at h;exact h
 have hM:(((w.alloc (.cells U2 79)).alloc (.cells (Qd 0 false false 0) 81)).alloc (.cells TL 97)).heap[w.heap.size+2]?=some (.cells TL 97 (0,0)):=by
  have h:=Z9 ((w.alloc (.cells U2 79)).alloc (.cells (Qd 0 false false 0) 81)) (.cells TL 97);rw[e2]at h;exact h
 have hP2:((((w.alloc (.cells U2 79)).alloc (.cells (Qd 0 false false 0) 81)).alloc (.cells TL 97)).setRow (w.heap.size+2) TL).heap[w.heap.size]?=some (.cells U2 79 (0,0)):=(setRow_other _ _ _ _ Zo).trans hP;have hD2:((((w.alloc (.cells U2 79)).alloc (.cells (Qd 0 false false 0) 81)).alloc (.cells TL 97)).setRow (w.heap.size+2) TL).heap[w.heap.size+1]?=some (.cells (Qd 0 false false 0) 81 (0,0)):=(setRow_other _ _ _ _ Zo).trans hD;have jq:Hid (Below w w ((((w.alloc (.cells U2 79)).alloc (.cells (Qd 0 false false 0) 81)).alloc (.cells TL 97)).setRow (w.heap.size+2) TL)):=Z0 (ZF (ZF (Z' w _) (Zw _) _) (Zw _) _) Zo _;clear hv We hl e1 e2 e3 hP hD;go_enter func107,ntmps107;go_upto_region 4 with(with_reducible refine Zs hM ?_)
 clear hM;generalize((((w.alloc (.cells U2 79)).alloc (.cells (Qd 0 false false 0) 81)).alloc (.cells TL 97)).setRow (w.heap.size+2) TL)=w3 at *
 have hl3:=ZX hP2;have hl4:=ZX hD2;have Va:Hid (Below w3 w3 (w3.alloc (.cells #[.slice ia l.length ic] 213))):=Z' w3 _;have wu:Hid (Below w w (w3.alloc (.cells #[.slice ia l.length ic] 213))):=Tr jq Va.o;have hP4:=(Va.o.block _ hl3).trans hP2;have hD4:=(Va.o.block _ hl4).trans hD2;have hl5:=ZX hP4;have hl6:=ZX hD4;clear hP2 hD2 hl3 hl4;go_wp2_with (first|(go_at_call 129;refine(CO.o _ wu.o).mono ?_;rintro e w5 ⟨⟨v',rfl,hit⟩,NI⟩;obtain⟨ja,jc,hjv⟩:=YH.form hit;subst hjv;have hP5:=(NI.block _ hl5).trans hP4;have hD5:=(setRow_other w5 w (w.heap.size+1) U2 Zo).trans ((NI.block _ hl6).trans hD4);have RD:=Zh (Tr wu NI);have Hb:=Zh hit;clear NI hit)|(with_reducible refine Zs hP5 ?_)|(with_reducible refine Zs hD5 ?_))
 refine VD (v:= .tuple #[.agg U2,.agg (Qd 0 false false 0),.slice ja l.length jc]) ?_ rfl ?_
 ·refine(Gf (p:=2) (q:=3) (u:=4) (t1:=79) (t2:=81) rfl _ _ w (w.heap.size+1) 79 81 U2 (Qd 0 false false 0) (0,0) (0,0) _ _ Zr ((setRow_other _ _ _ _ Zo).trans (setRow_heap _ _ _ _ _ _ hP5)) underlying79 rfl X_ Zr (setRow_heap _ _ _ _ _ _ hD5) underlying81 rfl X_).trans ?_;rfl
 refine⟨⟨_,rfl,?_⟩,Z0 (Z0 RD.o (Zw _) _) (J_ _) _⟩;have k1:YH (w5.setRow w U2) (.slice ja l.length jc) l:=Hb.o.fr (Ti w5 _ _) (fun k hk=>by have hk:k=w.heap.size:=hk;subst hk;exact⟨_,_,_,hP5,by decide,by decide,by decide,by decide,by decide,by decide,by decide⟩);exact k1.fr (Ti _ _ _) (fun k hk=>by have hk:k=w.heap.size+1:=hk;subst hk;exact⟨_,_,_,hD5,by decide,by decide,by decide,by decide,by decide,by decide,by decide⟩)
open Go.Proofs.Rm (VI)
theorem zJ(n:Int)(w:World):Calls prog 66 (Q4 n 8) w fun e w'=>e = .returned (.bool (VI n 9))∧w=w':=by
 have HW:Hid (VI n 9=(decide (1≤n)&&decide (n<9))):=rfl;generalize VI n 9=x at *
 by_cases h1:1≤n
 ·have HF:Hid (x=decide (n≤8)):=by show _=_;rw[HW.o,Ww h1];simp only[Bool.true_and];exact decide_eq_decide.2 Zo
  have d1:decide (1≤n)=true:=Ww h1;clear HW;go_enter func66,ntmps66;go_wp2;go_ret;exact⟨Xt HF.o.symm,rfl⟩
 ·have HF:Hid (x=false):=by show _=_;rw[HW.o,Wz h1];simp
  have d1:decide (1≤n)=false:=Wz h1;clear HW;go_enter func66,ntmps66;go_wp2;go_ret;exact⟨Xt HF.o.symm,rfl⟩
theorem KT{a b:Int}(h:a=b):Ending.returned (.int .u32 a) = .returned (.int .u32 b):=by rw[h]
theorem Gj(p s:Int)(w:World):Calls prog 37 (Q4 p s) w fun e w'=>e = .returned (.int .u32 (W8 p s))∧w=w':=by
 have CP:=Zh (zJ p w);have CS:=Zh (zJ s w);cases h1:VI p 9
 ·have HF:Hid (W8 p s=0):=by show _=_;unfold W8;rw[h1];rfl
  rw[h1]at CP;generalize W8 p s=x at *
  clear CS h1;go_enter func37,ntmps37;go_wp2_with (go_at_call 66;refine CP.o.mono ?_;rintro e w' ⟨rfl,rfl⟩)
  go_ret;exact⟨KT HF.o.symm,rfl⟩
 ·cases h2:VI s 9
  ·have HF:Hid (W8 p s=0):=by show _=_;unfold W8;rw[h1,h2];rfl
   rw[h1]at CP;rw[h2]at CS;generalize W8 p s=x at *
   clear h1 h2;go_enter func37,ntmps37;go_wp2_with fail
   refine CP.o.mono ?_;rintro e w' ⟨rfl,rfl⟩;go_wp2_with fail
   refine CS.o.mono ?_;rintro e w' ⟨rfl,rfl⟩;go_wp2_with fail
   go_ret;exact⟨KT HF.o.symm,rfl⟩
  ·have HF:Hid (W8 p s=3221225472+(256*p+s)):=by show _=_;unfold W8;rw[h1,h2];rfl
   rw[h1]at CP;rw[h2]at CS;obtain⟨b1,b2⟩:=Xl.1 h1;obtain⟨b3,b4⟩:=Xl.1 h2;generalize W8 p s=x at *
   clear h1 h2;go_enter func37,ntmps37;go_wp2_with fail
   refine CP.o.mono ?_;rintro e w' ⟨rfl,rfl⟩;go_wp2_with fail
   refine CS.o.mono ?_;rintro e w' ⟨rfl,rfl⟩;go_wp2_with fail
   go_ret;exact⟨KT (by rw[HF.o]),rfl⟩
theorem vI(x:Int)(w:World)(h0:0≤x)(h1:x<4294967296) :
  Calls prog 160 #[.int .u32 x] w fun e w'=>e = .returned (.tuple (Q6 (U' x).1 (U' x).2.1 (U' x).2.2))∧w=w':=by
 have hw:IntKind.u32.wrap (x-3221225472)=(x+1073741824)%4294967296:=by rw[Np];omega
 have HE:Hid (U' x=if VI ((x+1073741824)%4294967296/256) 9&&VI ((x+1073741824)%4294967296%256) 9 then((x+1073741824)%4294967296/256,(x+1073741824)%4294967296%256,true)else(0,0,false)):=rfl
 have hx:∀n:Int,n=(x+1073741824)%4294967296→VI (n/256) 9=true→VI (n%256) 9=true→3221225472+(256*(n/256)+n%256)=x:=fun n hn ha hb=>by
  rw[Xl]at ha hb;omega
 have Nw:0≤(x+1073741824)%4294967296:=by omega
 have YZ:(x+1073741824)%4294967296<4294967296:=by omega
 generalize U' x=X at *
 generalize(x+1073741824)%4294967296=n at *
 have CO:=Zh (Gj (n/256) (n%256) w);have hq0:0≤n/256:=by omega
 have hq1:n/256<16777216:=by omega
 have hr0:0≤n%256:=by omega
 have aA:n%256<256:=by omega
 by_cases hc:(VI (n/256) 9&&VI (n%256) 9)=true
 ·have hX:X=(n/256,n%256,true):=by rw[HE.o,ZU hc]
  subst hX;have Ks:=hc;rw[UW]at Ks;have e:W8 (n/256) (n%256)=x:=by unfold W8;rw[ZU hc,hx n rfl Ks.1 Ks.2]
  rw[e]at CO;have WN:3221225472≤x:=by have:=hx n rfl Ks.1 Ks.2;omega
  have b1:(x==0)=false:=by rw[WM];omega
  have b2:(x !=x)=false:=by simp
  clear HE hx hc Ks e;exact cB
 ·have hX:X=(0,0,false):=by rw[HE.o,Z3 hc]
  subst hX;have e:W8 (n/256) (n%256)=0:=by unfold W8;rw[Z3 hc]
  rw[e]at CO;clear HE hx hc e;exact cB
end Go.Proofs.By
namespace Go.Proofs.By
open Go.RowKit Go.Proofs.Heap
open Go.Proofs.Rm (YD YF Room ZR Inv of PI of_lt IQ NR AA Zp)
theorem o5(b:Nat)(R:Room)(peer x:Int)(w:World)(hR:ZR w b R)(hI:Inv R)(hl:∀n,(R.src n).ss.length≤1000000) :
  Calls prog 130 (Jc (some ⟨b,0,none⟩) peer x) w fun e w'=>(∃n l:Int,e = .returned (.tuple (Q6 n l (owned R peer x))))∧Below w w w':=by
 obtain⟨n,O2,O3,hO⟩:∃(n:Nat) (O2:Int) (O3:Bool),of R x=((n:Int),O2,O3):=⟨(of R x).1.toNat,(of R x).2.1,(of R x).2.2,by rw[Int.toNat_of_nonneg (of_lt R x).1]⟩
 have HX:Hid (owned R peer x=(O3&&decide ((R.src n).own=peer))):=by
  show _=_;unfold owned;rw[hO];rfl
 have HTH:Hid (O3=true→(R.src n).there=true):=by
  show _→_;intro h3;obtain⟨m,_,h1,_,h2⟩:=PI (R:=R) (x:=x) (by rw[hO];exact h3);rw[hO]at h2;have h4:(n:Int)=(m:Int):=congrArg (·.1) h2;have h4:n=m:=by omega
  rw[h4];exact h1
 have COF:Hid (Calls prog 127 (Jj (some ⟨b,0,none⟩) x) w fun e w'=>e = .returned (.tuple (Q6 (n:Int) O2 O3))∧Below w w w'):=by
  have h:=IQ b R x w hR;rw[hO]at h;exact h
 have CSR:=Zh (fun(w2:World) (h:Below w w w2)=>NR b R n w2 (hR.below h) hI hl);generalize owned R peer x=X at *
 clear hO hR hI hl;cases O3 with
 | false=>
  have xG:Hid (X=false):=by show _=_;rw[HX.o];rfl
  clear HX HTH;go_enter func130,ntmps130;go_wp2_with (first|(go_at_call 127;refine COF.o.mono ?_;rintro e w2 ⟨rfl,Zb⟩;have Yg:=Zh Zb;clear Zb)|(go_at_call 81;refine(CSR.o _ Yg.o).mono ?_;rintro e w3 ⟨⟨nm,ow,a,k,c,mu,has,rfl,Eh,C_⟩,WT⟩;have WU:=Zh (Tr Yg WT);clear WT Eh C_))
  go_ret3
  exact⟨⟨0,0,by rw[xG.o];rfl⟩,ZF WU.o (Zw _) _⟩
 | true=>
  by_cases hp:(R.src n).own=peer
  ·have xG:Hid (X=true):=by show _=_;rw[HX.o,Ww hp];rfl
   have HP:=Zh hp;clear HX hp;go_enter func130,ntmps130;go_wp2_with (first|(go_at_call 127;refine COF.o.mono ?_;rintro e w2 ⟨rfl,Zb⟩;have Yg:=Zh Zb;clear Zb)|(go_at_call 81;refine(CSR.o _ Yg.o).mono ?_;rintro e w3 ⟨⟨nm,ow,a,k,c,mu,has,rfl,Eh,C_⟩,WT⟩;have WU:=Zh (Tr Yg WT);have qi:ow=peer:=((C_ (by rw[Eh];exact HTH.o AE)).trans HP.o);have pZ:(ow !=peer)=false:=(by rw[qi];simp);have hbb2:(ow==peer)=true:=(by rw[qi];simp);clear WT Eh C_ qi))
   go_ret3
   exact⟨⟨(n:Int),O2,by rw[xG.o];rfl⟩,ZF WU.o (Zw _) _⟩
  ·have xG:Hid (X=false):=by show _=_;rw[HX.o,Wz hp];rfl
   have HP:=Zh hp;clear HX hp;go_enter func130,ntmps130;go_wp2_with (first|(go_at_call 127;refine COF.o.mono ?_;rintro e w2 ⟨rfl,Zb⟩;have Yg:=Zh Zb;clear Zb)|(go_at_call 81;refine(CSR.o _ Yg.o).mono ?_;rintro e w3 ⟨⟨nm,ow,a,k,c,mu,has,rfl,Eh,C_⟩,WT⟩;have WU:=Zh (Tr Yg WT);have qi:=C_ (by rw[Eh];exact HTH.o AE);have WN:ow≠peer:=(by rw[qi];exact HP.o);have pZ:(ow !=peer)=true:=(by rw[RH];exact WN);have hbb2:(ow==peer)=false:=(by rw[WM];exact WN);clear WT Eh C_ qi WN))
   go_ret3
   exact⟨⟨0,0,by rw[xG.o];rfl⟩,ZF WU.o (Zw _) _⟩
theorem oZ(b:Nat)(R:Room)(peer x:Int)(w:World)(hR:ZR w b R)(h0:0≤x)(h1:x<4294967296) :
  Calls prog 131 (Jc (some ⟨b,0,none⟩) peer x) w fun e w'=>(∃n:Int,e = .returned (.tuple (Jb n (UA R peer x))))∧Below w w w':=by
 have CW:=Zh (vI x w h0 h1);have HX:Hid (UA R peer x=((U' x).2.2&&decide ((U' x).1=peer)&&Zp R peer (U' x).2.1)):=rfl;generalize U' x=W at *
 obtain⟨wp,ws,wk⟩:=W;dsimp only at CW HX;have CS:=Zh (AA b R peer ws w hR);generalize UA R peer x=X at *
 generalize Zp R peer ws=hv at *
 generalize(R.sub ws.toNat peer.toNat).want=s1 at *
 generalize(R.sub ws.toNat peer.toNat).ZV=s2 at *
 clear hR h0 h1;cases wk with
 | false=>
  have xG:Hid (X=false):=by show _=_;rw[HX.o];rfl
  clear HX;cases hv with
  | false=>
   rw[Z3 Zi]at CS;exact kq
  | true=>
   rw[ZU rfl]at CS;exact kq
 | true=>
  by_cases hp:wp=peer
  ·subst hp;cases hv with
   | false=>
    have xG:Hid (X=false):=by show _=_;rw[HX.o];simp
    rw[Z3 Zi]at CS;clear HX;exact kq
   | true=>
    have xG:Hid (X=true):=by show _=_;rw[HX.o];simp
    rw[ZU rfl]at CS;clear HX;go_enter func131,ntmps131;go_wp2_with (first|(go_at_call 160;refine CW.o.mono ?_;rintro e w2 ⟨rfl,rfl⟩)|(go_at_call 83;refine CS.o.mono ?_;rintro e w3 ⟨rfl,WT⟩;have WU:=Zh WT;clear WT))
    go_ret2
    exact⟨⟨ws,by rw[xG.o];rfl⟩,ZF WU.o (Zw _) _⟩
  ·have xG:Hid (X=false):=by show _=_;rw[HX.o,Wz hp];simp
   have pZ:(wp !=peer)=true:=by rw[RH];exact hp
   have hbb2:(wp==peer)=false:=by rw[WM];exact hp
   clear HX hp;cases hv with
   | false=>
    rw[Z3 Zi]at CS;exact kq
   | true=>
    rw[ZU rfl]at CS;exact kq
open Go.Proofs.Rm (Wn YN Z7 Xy Vx X4 Wv YL YW wT LK M_)
theorem Gu{l:List Int}{k:Nat}(h:k<l.length):l.take (k+1)=l.take k++[l.getD k 0]:=by
 rw[List.take_succ_eq_append_getElem h,Q_,Ve h];rfl
theorem tM(b:Nat)(R:Room)(peer:Int)(x:RF)(w:World)(hR:ZR w b R)(hI:Inv R)(hS:Wn R)(We:Tf x.i)(hx:Ue w x) :
  Calls prog 108 (Jl (some ⟨b,0,none⟩) peer (YU x).toArray) w fun e w'=>
   (∃v,e = .returned (.tuple #[v,.int .i64 (Yh R peer x.i).2])∧YD w' v (Yh R peer x.i).1.1)∧ZR w' b (Yh R peer x.i).1.2∧Fr w (· = b) w w':=by
 obtain⟨i,bv,gv,pv⟩:=x;obtain⟨ba,bc,lC⟩:=Row.form hx.b;obtain⟨ga,gc,uE⟩:=Row.form hx.g;obtain⟨pa,pc,My⟩:=Row.form hx.p;have iR:=hx.g;obtain⟨kd,ss,nt,tm,pk,oc,bs,gn,md,ps⟩:=i;have qg:=We.m0;have Bc:=We.m1;have zZ:=We.g;clear We hx;dsimp only at lC uE My iR qg Bc zZ ⊢;subst lC;subst uE;subst My;dsimp only[YU];have VN:Hid (Below w w (w.alloc (.cells (Qe kd ss nt tm pk oc ba bs.length bc ga gn.length gc md pa ps.length pc) 173))):=Z' w _;have hz:=Z9 w (.cells (Qe kd ss nt tm pk oc ba bs.length bc ga gn.length gc md pa ps.length pc) 173);have HR:=Zh hR;have JZ:=Zh (hR.below VN.o);have hb:=hR.lt;have Hb:Hid (Yh R peer ⟨kd,ss,nt,tm,pk,oc,bs,gn,md,ps⟩=if kd=200 then(([],R),if owned R peer ss then 0 else 1)else if kd=205∨kd=206 then(([],R),if UA R peer md then 0 else 1)else if kd=203 then Za peer gn R else(([],R),0)):=rfl;generalize Yh R peer ⟨kd,ss,nt,tm,pk,oc,bs,gn,md,ps⟩=X at *
 generalize bs.length=bl at *
 generalize ps.length=pl at *
 by_cases LM:kd=200
 ·subst LM;have VC:Hid (X=(([],R),if owned R peer ss then 0 else 1)):=by show _=_;rw[Hb.o];simp
  have CO:=Zh (o5 b R peer ss _ JZ.o hI hS.short);clear Hb hI hS iR hR qg Bc zZ;generalize owned R peer ss=O at *
  cases O with
  | false=>
   have HX:Hid (X=(([],R),1)):=by show _=_;rw[VC.o];rfl
   exact Yx64
  | true=>
   have HX:Hid (X=(([],R),0)):=by show _=_;rw[VC.o];rfl
   exact Yx64
 by_cases uP:kd=205
 ·subst uP;exact Yx83
 by_cases qC:kd=206
 ·subst qC;exact Yx83
 have e1:(kd==200)=false:=by rw[WM];exact LM
 have e2:(kd==205)=false:=by rw[WM];exact uP
 have e3:(kd==206)=false:=by rw[WM];exact qC
 have Mo:Hid (X=if kd=203 then Za peer gn R else(([],R),0)):=by show _=_;rw[Hb.o,Z3 LM,Z3 Zo]
 clear Hb qg Bc;by_cases Hl:kd=203
 rotate_left
 ·have HX:Hid (X=(([],R),0)):=by show _=_;rw[Mo.o,Z3 Hl]
  have e4:(kd==203)=false:=by rw[WM];exact Hl
  have e5:(kd !=203)=true:=by rw[RH];exact Hl
  have RD:=VN;clear Mo iR hI hS hR;go_enter func108,ntmps108;go_wp2_with fail
  go_ret2
  exact⟨⟨.slice none 0 0,by rw[HX.o];rfl,by rw[HX.o];exact Row.nil _ _⟩,by rw[HX.o];exact HR.o.below RD.o,Fr.Z6 _ RD.o⟩
 subst Hl;have HX:Hid (X=Za peer gn R):=by show _=_;rw[Mo.o,ZU rfl]
 have HGR:=Zh iR;have HTY:Hid (∀k c fr,k=b→w.heap[k]?≠some (.cells c 66 fr)):=hR.EP Zd
 have bH:Hid (∀j,Inv (Za peer (gn.take j) R).1.2∧(Za peer (gn.take j) R).1.1.length≤18*(gn.take j).length∧0≤(Za peer (gn.take j) R).2∧(Za peer (gn.take j) R).2≤(gn.take j).length):=fun j=>by
  have h:=QC peer (gn.take j) R hI hS;exact⟨h.1,h.2.2⟩
 clear Mo iR hI hS e1 e2 e3 LM uP qC;go_enter func108,ntmps108;go_wp2_with fail
 go_loopw [6,7,45] (fun s6 s7 s45 w'=>∃j:Nat,j≤gn.length∧s45 = .int .i64 (j:Int)∧s7 = .int .i64 (Za peer (gn.take j) R).2∧Fr w (· = b) w w'∧ZR w' b (Za peer (gn.take j) R).1.2∧w'.ownsRow w 158 5 s6 (Za peer (gn.take j) R).1.1.length ((Za peer (gn.take j) R).1.1.flatMap Z7)) (fun _ _ s45 _=>gn.length-(intOf s45).toNat)
 case atStart=>exact⟨0,Zo,rfl,rfl,Fr.Z6 _ VN.o,JZ.o,TV _ _ _ _⟩
 case round=>
  obtain⟨j,hj,rfl,rfl,Wm,Xn,YG⟩:=hrel;have T8:=Zh Wm;have Xx:=Zh Xn;have Yk:=Zh YG;have Uk:=Wm.size;obtain⟨oa,oc',hs6,-⟩:=Row.Z4 YG;subst hs6;clear Wm Xn YG;by_cases RN:j<gn.length
  ·have ZW:=HGR.o.fr T8.o (Zw _) HTY.o;obtain⟨g',off',cap',e1,-,-,hg',Yu⟩:=Rm.Nh (l:=gn) ZW Zo;cases e1;have hc:=Yu j RN;have HT:=Zh (Gu RN);have Cx:=bH.o j;have gJ:=ug;rw[SY]at Cx;obtain⟨-,hi2,hi3,hi4⟩:=Cx;clear Yu ZW;generalize gn.getD j 0=p at *
   have HS:=Zh (N0 peer p (gn.take j) R);have CG:=Zh (wT b (Za peer (gn.take j) R).1.2 peer p wr Xx.o);have Ak:=LC (Za peer (gn.take j) R).1.2 peer p;generalize Za peer (gn.take j) R=G at *
   generalize YW G.1.2 peer p=Y at *
   obtain⟨⟨Y1,Y2⟩,ye⟩:=Y;obtain⟨⟨G1,G2⟩,gu⟩:=G;dsimp only at CG HS Ak Xx Yk hi2 hi3 hi4;by_cases hye:ye=0
   ·subst hye;have PV:Hid (Za peer (gn.take j++[p]) R=((G1++Y1,Y2),gu)):=by show _=_;rw[HS.o];simp[uf]
    exact Yx40
   ·have EO:(ye==0)=false:=by rw[WM];exact hye
    have ai:(ye !=0)=true:=by rw[RH];exact hye
    have PV:Hid (Za peer (gn.take j++[p]) R=((G1++Y1,Y2),gu+1)):=by show _=_;rw[HS.o];simp[uf,hye]
    exact Yx40
  ·have Mi:j=gn.length:=by omega
   have hT:gn.take j=gn:=by rw[Mi,n9]
   rw[hT]at Xx Yk ⊢;clear bH HGR;generalize Za peer gn R=G at *
   go_wp2
   go_ret2
   exact⟨⟨_,by rw[HX.o];rfl,by rw[HX.o];exact Row.Z4 Yk.o⟩,by rw[HX.o];exact Xx.o,T8.o⟩
end Go.Proofs.By
