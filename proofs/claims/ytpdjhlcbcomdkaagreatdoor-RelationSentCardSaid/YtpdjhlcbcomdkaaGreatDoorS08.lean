import Derived.Test.YtpdjhlcbcomdkaaGreatDoorChecked
import Derived.Test.YtpdjhlcbcomdkaaGreatDoorS07
set_option linter.all false
set_option maxRecDepth 100000
set_option maxHeartbeats 16000000
open Go Go.Q Go.Qr Go.Proofs.Tryz Go.RowKit
namespace Go.Proofs.By
def DM(v:Value)(n:Nat)(xs:List Value)(w:World)(hv:Row w 173 v n xs)(hx:xs.length=n*10)(h1:∀u∈xs,u.oneCell'=true)(hl:n≤1000000) :
  Calls prog 157 #[v] w fun e w'=>(∃v',e = .returned v'∧w'.ownsRow w 173 10 v' n xs)∧Below w w w':=by
 obtain⟨a,cap,rfl,Sg,Nv,SA,K7⟩:=id hv;have HV:=Zh hv;have HN:=Zh SA;have iZ:=Zh hx;have iM:=Zh h1;clear hv K7 Sg Nv SA hx h1;cases a with
 | none=>
  obtain⟨h1,h2⟩:=HN.o rfl;have HL:Hid (xs=[]):=BK (by rw[iZ.o,h1]);have he:=fun w=>Lib.run_eql_slice_nil (P:=prog) w 82 173 none n cap 0 0 underlying82
  have HH1:=Zh h1;clear h1 h2;go_enter func157,ntmps157;exact dR
 | some a=>
  have he:=fun w=>Lib.run_eql_slice_nil (P:=prog) w 82 173 (some a) n cap 0 0 underlying82
  clear HN;go_enter func157,ntmps157;go_wp2_with (at_builtin;refine YN rfl (.tmp 5) (.tmp 6) 82 rfl w GA _ 0 [] rfl (Sh w 173 10) _ n xs rfl (HV.o.below (Z' _ _)) iZ.o iM.o Zo Zo Zi (fun v' w1 HO HG=>?_))
  go_ret
  have hb:=((Fr.refl w Pj w).alloc (Zq _) (.cells #[] 173)).grown HG.o Zi (by
   intro k hk;have hk:some w.heap.size=some k:=hk;cases hk
   exact Zq _)
  exact dV
def DC(v:Value)(n:Nat)(xs:List Value)(w:World)(hv:Row w 228 v n xs)(hx:xs.length=n*7)(h1:∀u∈xs,u.oneCell'=true)(hl:n≤1000000) :
  Calls prog 158 #[v] w fun e w'=>(∃v',e = .returned v'∧w'.ownsRow w 228 7 v' n xs)∧Below w w w':=by
 obtain⟨a,cap,rfl,Sg,Nv,SA,K7⟩:=id hv;have HV:=Zh hv;have HN:=Zh SA;have iZ:=Zh hx;have iM:=Zh h1;clear hv K7 Sg Nv SA hx h1;cases a with
 | none=>
  obtain⟨h1,h2⟩:=HN.o rfl;have HL:Hid (xs=[]):=BK (by rw[iZ.o,h1]);have he:=fun w=>Lib.run_eql_slice_nil (P:=prog) w 170 228 none n cap 0 0 underlying170
  have HH1:=Zh h1;clear h1 h2;go_enter func158,ntmps158;exact dR
 | some a=>
  have he:=fun w=>Lib.run_eql_slice_nil (P:=prog) w 170 228 (some a) n cap 0 0 underlying170
  clear HN;go_enter func158,ntmps158;go_wp2_with (at_builtin;refine YN rfl (.tmp 5) (.tmp 6) 170 rfl w Mf _ 0 [] rfl (Sh w 228 7) _ n xs rfl (HV.o.below (Z' _ _)) iZ.o iM.o Zo Zo Zi (fun v' w1 HO HG=>?_))
  go_ret
  have hb:=((Fr.refl w Pj w).alloc (Zq _) (.cells #[] 228)).grown HG.o Zi (by
   intro k hk;have hk:some w.heap.size=some k:=hk;cases hk
   exact Zq _)
  exact dV
def DR(v:Value)(n:Nat)(xs:List Value)(w:World)(hv:Row w 66 v n xs)(hx:xs.length=n*1)(h1:∀u∈xs,u.oneCell'=true)(hl:n≤1000000) :
  Calls prog 112 #[v] w fun e w'=>(∃v',e = .returned v'∧w'.ownsRow w 66 1 v' n xs)∧Below w w w':=by
 obtain⟨a,cap,rfl,Sg,Nv,SA,K7⟩:=id hv;have HV:=Zh hv;have HN:=Zh SA;have iZ:=Zh hx;have iM:=Zh h1;clear hv K7 Sg Nv SA hx h1;cases a with
 | none=>
  obtain⟨h1,h2⟩:=HN.o rfl;have HL:Hid (xs=[]):=BK (by rw[iZ.o,h1]);have he:=fun w=>Lib.run_eql_slice_nil (P:=prog) w 29 66 none n cap 0 0 underlying29
  have HH1:=Zh h1;clear h1 h2;go_enter func112,ntmps112;exact dR
 | some a=>
  have he:=fun w=>Lib.run_eql_slice_nil (P:=prog) w 29 66 (some a) n cap 0 0 underlying29
  clear HN;go_enter func112,ntmps112;go_wp2_with (at_builtin;refine YN rfl (.tmp 5) (.tmp 6) 29 rfl w Ve _ 0 [] rfl (Sh w 66 1) _ n xs rfl (HV.o.below (Z' _ _)) iZ.o iM.o Zo Zo Zi (fun v' w1 HO HG=>?_))
  go_ret
  have hb:=((Fr.refl w Pj w).alloc (Zq _) (.cells #[] 66)).grown HG.o Zi (by
   intro k hk;have hk:some w.heap.size=some k:=hk;cases hk
   exact Zq _)
  exact dV
def DN(v:Value)(n:Nat)(xs:List Value)(w:World)(hv:Row w 226 v n xs)(hx:xs.length=n*2)(h1:∀u∈xs,u.oneCell'=true)(hl:n≤1000000) :
  Calls prog 159 #[v] w fun e w'=>(∃v',e = .returned v'∧w'.ownsRow w 226 2 v' n xs)∧Below w w w':=by
 obtain⟨a,cap,rfl,Sg,Nv,SA,K7⟩:=id hv;have HV:=Zh hv;have HN:=Zh SA;have iZ:=Zh hx;have iM:=Zh h1;clear hv K7 Sg Nv SA hx h1;cases a with
 | none=>
  obtain⟨h1,h2⟩:=HN.o rfl;have HL:Hid (xs=[]):=BK (by rw[iZ.o,h1]);have he:=fun w=>Lib.run_eql_slice_nil (P:=prog) w 171 226 none n cap 0 0 underlying171
  have HH1:=Zh h1;clear h1 h2;go_enter func159,ntmps159;exact dR
 | some a=>
  have he:=fun w=>Lib.run_eql_slice_nil (P:=prog) w 171 226 (some a) n cap 0 0 underlying171
  clear HN;go_enter func159,ntmps159;go_wp2_with (at_builtin;refine YN rfl (.tmp 5) (.tmp 6) 171 rfl w J6 _ 0 [] rfl (Sh w 226 2) _ n xs rfl (HV.o.below (Z' _ _)) iZ.o iM.o Zo Zo Zi (fun v' w1 HO HG=>?_))
  go_ret
  have hb:=((Fr.refl w Pj w).alloc (Zq _) (.cells #[] 226)).grown HG.o Zi (by
   intro k hk;have hk:some w.heap.size=some k:=hk;cases hk
   exact Zq _)
  exact dV
def Bu(l:List Int):(YF l).length=l.length:=Te _
def JD(l:List Int):∀u∈YF l,u.oneCell'=true:=by
 intro u hu;obtain⟨x,_,rfl⟩:=vS.1 hu;rfl
def LC{w:World}{base:Nat}{e:TypeId}{size:Nat}{v:Value}{n:Nat}{xs:List Value}(h:w.ownsRow base e size v n xs)(hn:0<n):∃g cap cur,v = .slice (some ⟨g,0,none⟩) n cap∧base≤g∧w.heap[g]?=some (.cells cur e):=by
 obtain⟨_,h⟩:=h;rcases h with⟨_,h⟩|⟨g,cap,cur,hv,hg,hh,h1,h2,h3,h4⟩
 ·omega
 ·exact⟨g,cap,cur,hv,hg,hh⟩
def OI{w:World}{base:Nat}{e:TypeId}{size:Nat}{n:Nat}{xs:List Value}{g cap:Nat}(h:w.ownsRow base e size (.slice (some ⟨g,0,none⟩) n cap) n xs)(hn:0<n)(i:Nat)(u:Value):(w.setCell ⟨g,i,none⟩ u).ownsRow base e size (.slice (some ⟨g,0,none⟩) n cap) n (xs.set i u):=by
 exact Yx92
def yr(u:Value):∀(Q:List Rj) (k:Nat) (hk:k<Q.length),(Q.flatMap YJ).set (k*10+6) u=(Q.set k {Q[k]with bv:=u}).flatMap YJ
 | [],k,hk=>by simp at hk
 | x :: Q,0,_=>by simp[YJ]
 | x :: Q,k+1,hk=>by
  have ih:=yr u Q k (by simpa using hk);rw[List.flatMap_cons,List.set_append_right _ _ (by show 10≤_;omega),List.set_cons_succ,List.flatMap_cons];have:(k+1)*10+6-(YJ x).length=k*10+6:=by show _-10=_;omega
  rw[this,ih];rfl
def yt(u:Value):∀(Q:List Rj) (k:Nat) (hk:k<Q.length),(Q.flatMap YJ).set (k*10+7) u=(Q.set k {Q[k]with gv:=u}).flatMap YJ
 | [],k,hk=>by simp at hk
 | x :: Q,0,_=>by simp[YJ]
 | x :: Q,k+1,hk=>by
  have ih:=yt u Q k (by simpa using hk);rw[List.flatMap_cons,List.set_append_right _ _ (by show 10≤_;omega),List.set_cons_succ,List.flatMap_cons];have:(k+1)*10+7-(YJ x).length=k*10+7:=by show _-10=_;omega
  rw[this,ih];rfl
def yw(u:Value):∀(Q:List Rj) (k:Nat) (hk:k<Q.length),(Q.flatMap YJ).set (k*10+9) u=(Q.set k {Q[k]with pv:=u}).flatMap YJ
 | [],k,hk=>by simp at hk
 | x :: Q,0,_=>by simp[YJ]
 | x :: Q,k+1,hk=>by
  have ih:=yw u Q k (by simpa using hk);rw[List.flatMap_cons,List.set_append_right _ _ (by show 10≤_;omega),List.set_cons_succ,List.flatMap_cons];have:(k+1)*10+9-(YJ x).length=k*10+9:=by show _-10=_;omega
  rw[this,ih];rfl
def fY(Q:List Rj)(k:Nat)(hk:k<Q.length)(b g p:Value):(((Q.flatMap YJ).set (k*10+6) b).set (k*10+7) g).set (k*10+9) p=(Q.set k ⟨Q[k].i,b,g,p⟩).flatMap YJ:=by
 rw[yr b Q k hk,yt g _ k (by rw[List.length_set];exact hk),yw p _ k (by rw[List.length_set,List.length_set];exact hk)];simp[List.set_set]
def uj{w:World}{a:Option Addr}{n c:Nat}{l:List Rj}(h:Row w 173 (.slice a n c) n (l.flatMap YJ))(hl:0<l.length):∃g off,a=some ⟨g,off,none⟩∧∀(i:Nat) (x:Rj),l[i]?=some x→∀j,j<10→w.cell? ⟨g,off+i*10+j,none⟩=(YJ x)[j]?:=by
 have vU:=XH YJ 10 (fun _=>rfl) l;obtain⟨g,off,cap,h1,h2,h3,h4,h5⟩:=Row.open h (by rw[vU];omega);injection h1 with e1 _ _
 refine⟨g,off,e1,fun i x hx j hj=>?_⟩;have hi:i<l.length:=(List.getElem?_eq_some_iff.1 hx).1;rw[Nat.add_assoc,h5 (i*10+j) (by rw[vU];omega)];exact Mg YJ 10 (fun _=>rfl) l i j x hx hj
def TW.setAt{w:World}{x:Rj}(h:TW w x){g:Nat}{c:Array Value}{f:Nat×Nat}(hg:w.heap[g]?=some (.cells c 173 f))(o:Nat)(u:Value):TW (w.setCell ⟨g,o,none⟩ u) x:=by
 have hf:Fr w (· = g) w (w.setCell ⟨g,o,none⟩ u):=(Fr.refl _ _ _).setAt _ _
 have WA:∀e,173≠e→∀k c fr,k=g→w.heap[k]?≠some (.cells c e fr):=by
  intro e he k c fr hk hc;rw[hk,hg]at hc;injection hc with hc
  injection hc with _ hc
  exact he hc
 exact h.vT hf (WA _ Zd) (WA _ Zd) (WA _ Zd)
def lK{x:Rj}(h1:∃a n c,x.bv = .slice a n c)(h2:∃a n c,x.gv = .slice a n c)(h3:∃a n c,x.pv = .slice a n c):∀u∈YJ x,u.oneCell'=true:=by
 obtain⟨i,bv,gv,pv⟩:=x;obtain⟨_,_,_,h1⟩:=h1;obtain⟨_,_,_,h2⟩:=h2;obtain⟨_,_,_,h3⟩:=h3;dsimp only at h1 h2 h3;subst h1;subst h2;subst h3;intro u hu;simp only[YJ,K5,List.mem_nil_iff,or_false]at hu;rcases hu with rfl|rfl|rfl|rfl|rfl|rfl|rfl|rfl|rfl|rfl <;> rfl
def UT{α:Type}{f:α→List Value}{l:List α}(h:∀x∈l,∀u∈f x,u.oneCell'=true):∀u∈l.flatMap f,u.oneCell'=true:=by
 intro u hu;obtain⟨x,hx,hu⟩:=List.mem_flatMap.1 hu;exact h x hx u hu
def Ao(x:nJ):∀u∈WW x,u.oneCell'=true:=by
 intro u hu;simp only[WW,K5,List.mem_nil_iff,or_false]at hu;rcases hu with rfl|rfl|rfl|rfl|rfl|rfl|rfl <;> rfl
def yJ(x:Int×Int):∀u∈VY x,u.oneCell'=true:=by
 intro u hu;simp only[VY,K5,List.mem_nil_iff,or_false]at hu;rcases hu with rfl|rfl <;> rfl
def Ae(v:Value)(l:List Rc)(w:World)(hv:YB w v l)(V9:∀i∈l,S3 i)(hl:l.length≤1000) :
  Calls prog 129 #[v] w fun e w'=>(∃v',e = .returned v'∧YB w' v' l)∧Below w w w':=by
 obtain⟨L,rfl,ZW,Pd⟩:=hv;rw[Te]at hl;have Pg:Hid (∀Q:List Rj,Q.map (·.i)=L.map (·.i)→∀x∈Q,S3 x.i):=fun Q hQ x hx=>V9 x.i (by rw[←hQ];exact vS.2 ⟨x,hx,rfl⟩)
 have CC:=Zh (DM v L.length (L.flatMap YJ) w ZW (XH YJ 10 (fun _=>rfl) L) (UT fun x hx=>by
  obtain⟨_,_,h1⟩:=Row.form (Pd x hx).b;obtain⟨_,_,h2⟩:=Row.form (Pd x hx).g;obtain⟨_,_,h3⟩:=Row.form (Pd x hx).p
  exact lK ⟨_,_,_,h1⟩ ⟨_,_,_,h2⟩ ⟨_,_,_,h3⟩) Zo)
 have EI:=Zh Pd;clear ZW Pd V9;go_enter func129,ntmps129
 go_upto_block 3 with(go_at_call 157;refine CC.o.mono ?_;rintro e w1 ⟨⟨v1,rfl,ho1⟩,YV⟩;obtain⟨va,vc,hv1,-⟩:=Row.Z4 ho1;subst hv1;have zX:=Zh ho1;have VA:=Zh YV;clear ho1 YV)
 go_loopw [9] (fun s9 w'=>∃(j:Nat) (Q:List Rj),j≤L.length∧s9 = .int .i64 (j:Int)∧Q.map (·.i)=L.map (·.i)∧w'.ownsRow w 173 10 (.slice va L.length vc) L.length (Q.flatMap YJ)∧(∀x∈Q,TW w' x)∧Below w w w') (fun s9 _=>L.length-(intOf s9).toNat)
 case atStart=>exact⟨0,L,Zo,rfl,rfl,zX.o,fun x hx=>(EI.o x hx).below VA.o,VA.o⟩
 case round=>
  obtain⟨j,Q,hj,rfl,hQ,Yy,Pd,Xp⟩:=hrel;have hQl:Q.length=L.length:=by have h:=congrArg List.length hQ;rwa[Te,Te]at h
  have HQ:=Zh hQ;have R7:=Zh Xp;have Yd:=Zh Yy;have GY:=Zh Pd;have T8:=Xp.size;clear Xp Pd hQ CC zX EI VA;by_cases RZ:j<L.length
  ·obtain⟨g,cap,cur,e1,hwg,Hz⟩:=LC Yy Zo;cases e1;obtain⟨g',off',e2,V5⟩:=uj (Row.Z4 Yy) Zo;cases e2;have hjq:j<Q.length:=by omega
   have V5:=V5 j Q[j] (U' hjq);have LR:=GY.o Q[j] (O6 hjq);have V9:=Pg.o Q HQ.o Q[j] (O6 hjq);have HQJ:Hid (∀b g p,(((Q.flatMap YJ).set (j*10+6) b).set (j*10+7) g).set (j*10+9) p=(Q.set j ⟨Q[j].i,b,g,p⟩).flatMap YJ):=fun b g p=>fY Q j hjq b g p
   have HMAP:Hid (∀b g p,(Q.set j ⟨Q[j].i,b,g,p⟩).map (·.i)=Q.map (·.i)):=fun b g p=>by
    rw[List.map_set];apply List.ext_getElem
    ·rw[List.length_set]
    ·intro m h1 h2;rw[List.getElem_set];split
     ·rename_i h;subst h;simp
     ·rfl
   clear Yy;generalize hxq:Q[j]=x at *;have HQX:Hid (Q[j]?=some x):=by show _=_;rw[U' hjq,hxq]
   clear hxq;obtain⟨i,bv,gv,pv⟩:=x;obtain⟨ba,bc,ku⟩:=Row.form LR.b;obtain⟨ga,gc,tX⟩:=Row.form LR.g;obtain⟨pa,pc,Mk⟩:=Row.form LR.p;dsimp only at ku tX Mk V9 HQJ HMAP;subst ku;subst tX;subst Mk;have c0:=V5 0 Zo;have c1:=V5 1 Zo;have c2:=V5 2 Zo;have c3:=V5 3 Zo;have c4:=V5 4 Zo;have c5:=V5 5 Zo;have c6:=V5 6 Zo;have c7:=V5 7 Zo;have c8:=V5 8 Zo;have c9:=V5 9 Zo;simp only[YJ,R_,Rw,PA,bG]at c0 c1 c2 c3 c4 c5 c6 c7 c8 c9;have Cj:(j:Int)<(L.length:Int):=PM.2 RZ;have zK:g<wr.heap.size:=ZY Hz;have hz:=Z9 wr (.cells X9 173);have Nv:=setRow_heap _ _ _ (Jt i ba bc ga gc pa pc) _ _ hz;have Yc:Hid (Below wr wr ((wr.alloc (.cells X9 173)).setRow wr (Jt i ba bc ga gc pa pc))):=Z0 (Z' wr _) (Zq _) _;have vL:=Zh LR;have hob:=V9.b;have hog:=V9.g;have Cm:=V9.p;clear V5 LR V9;go_upto_region 5 with(with_reducible refine Zs hz ?_)
   clear hz c0 c1 c2 c3 c4 c5 c6 c7 c8 c9;generalize((wr.alloc (.cells X9 173)).setRow wr (Jt i ba bc ga gc pa pc))=w2 at *;have au:Hid (∀w',Below w2 w2 w'→Calls prog 158 #[.slice ba i.blocks.length bc] w' fun e w''=>(∃v',e = .returned v'∧w''.ownsRow w' 228 7 v' i.blocks.length (i.blocks.flatMap WW))∧Below w' w' w''):=fun w' h=>DC _ _ _ w' (Row.below (Row.below vL.o.b Yc.o) h) (XH WW 7 (fun _=>rfl) _) (UT fun x _=>Ao x) Zo
   have cT:Hid (∀w',Below w2 w2 w'→Calls prog 112 #[.slice ga i.gone.length gc] w' fun e w''=>(∃v',e = .returned v'∧w''.ownsRow w' 66 1 v' i.gone.length (YF i.gone))∧Below w' w' w''):=fun w' h=>DR _ _ _ w' (Row.below (Row.below vL.o.g Yc.o) h) (by rw[Bu];omega) (JD _) Zo
   have HCP:Hid (∀w',Below w2 w2 w'→Calls prog 159 #[.slice pa i.Xm.length pc] w' fun e w''=>(∃v',e = .returned v'∧w''.ownsRow w' 226 2 v' i.Xm.length (i.Xm.flatMap VY))∧Below w' w' w''):=fun w' h=>DN _ _ _ w' (Row.below (Row.below vL.o.p Yc.o) h) (XH VY 2 (fun _=>rfl) _) (UT fun x _=>yJ x) Zo
   have GJ:wr.heap.size<w2.heap.size:=ZY Nv
   have Zv:Hid (∀w':World,w'.heap[wr.heap.size]?=w2.heap[wr.heap.size]?→w'.cell? ⟨wr,6,none⟩=some (.slice ba i.blocks.length bc)∧w'.cell? ⟨wr,7,none⟩=some (.slice ga i.gone.length gc)∧w'.cell? ⟨wr,9,none⟩=some (.slice pa i.Xm.length pc)):=fun w' h=>
    ⟨Zc (h.trans Nv) 6 rfl,Zc (h.trans Nv) 7 rfl,Zc (h.trans Nv) 9 rfl⟩
   refine RX ?_;refine wp_region_held_drew (S:=(fun w'=>w'.cell? ⟨wr,6,none⟩=some (.slice ba i.blocks.length bc)∧w'.cell? ⟨wr,7,none⟩=some (.slice ga i.gone.length gc)∧w'.cell? ⟨wr,9,none⟩=some (.slice pa i.Xm.length pc))) X6 ?_ (fun _=>?_)
   ·exact Zv.o _ rfl
   refine YA 0 (h:=YA 1 (h:=YA 2 (h:=YA 3 (h:=YA 4 (h:=YA 5 (h:=YA 6 (h:=YA 7 (h:=YA 9 (h:=YA 10 (h:=YA 12 (h:=YA 13 (h:=?_))))))))))));refine Rv 8 (h:=fun K hK=>?_);go_simp;refine(au.o _ (YE _ _).drew).mono ?_;rintro e w3 ⟨⟨bv,rfl,ho⟩,hb⟩;obtain⟨oQ,oU,fV,-⟩:=Row.Z4 ho;subst fV;have HO3:=Zh (Row.Z4 ho);have WB:Hid (Below w2 w2 w3):=(YE w2 w2).drew.trans hb;have M9:Hid (w3.heap[wr.heap.size]?=w2.heap[wr.heap.size]?):=WB.o.block _ GJ;clear ho hb;go_wp2_with fail
   refine hK.out _ _ ?_ (fun _=>?_)
   ·exact oJ
   clear hK K;try simp only[pt]
   refine Rv 11 (h:=fun K hK=>?_);go_simp;refine(cT.o _ WB.o).mono ?_;rintro e w4 ⟨⟨gv,rfl,ho⟩,hb⟩;obtain⟨eT,eU,fV,-⟩:=Row.Z4 ho;subst fV;have HO4:=Zh (Row.Z4 ho);have HB34:Hid (Below w3 w3 w4):=hb;have U5:Hid (Below w2 w2 w4):=Tr WB hb;have gK:Hid (w4.heap[wr.heap.size]?=w2.heap[wr.heap.size]?):=U5.o.block _ GJ;clear ho hb;go_wp2_with fail
   refine hK.out _ _ ?_ (fun _=>?_)
   ·exact oJ
   clear hK K;try simp only[pt]
   refine Rv 14 (h:=fun K hK=>?_);go_simp;refine(HCP.o _ U5.o).mono ?_;rintro e w5 ⟨⟨pv,rfl,ho⟩,hb⟩;obtain⟨pa',nG,fV,-⟩:=Row.Z4 ho;subst fV;have aD:=Zh (Row.Z4 ho);have HB45:Hid (Below w4 w4 w5):=hb;have PD:Hid (Below w2 w2 w5):=Tr U5 hb;have iY:Hid (w5.heap[wr.heap.size]?=w2.heap[wr.heap.size]?):=PD.o.block _ GJ;have iy:Hid (Below wr wr w5):=Tr Yc PD.o;have xX:w5.heap[g]?=some (.cells cur 173):=(iy.o.block g zK).trans Hz;have h5o:=Yq Yd.o iy.o;obtain⟨g5,off5,e3,pq⟩:=uj (Row.Z4 h5o) Zo;cases e3;have pq:=pq j _ HQX.o;have k6:=pq 6 Zo;have k7:=pq 7 Zo;have k9:=pq 9 Zo;simp only[YJ,R_,Rw,PA]at k6 k7 k9;have f6:w5.frozen? ⟨g,j*10+6,none⟩=false:=ZP xX _;have f7:w5.frozen? ⟨g,j*10+7,none⟩=false:=ZP xX _;have f9:w5.frozen? ⟨g,j*10+9,none⟩=false:=ZP xX _;have hxg:wr.heap.size≠g:=by omega
   clear ho hb pq;go_wp2_with fail
   refine hK.out _ _ ?_ (fun _=>?_)
   ·exact oJ
   clear hK K;try simp only[pt]
   refine YA 15 (h:=YA 16 (h:=?_));refine Rv 17 (h:=fun K hK=>?_);go_simp;have HX6:Hid ((w5.setCell ⟨g,j*10+6,none⟩ (.slice oQ i.blocks.length oU)).heap[wr.heap.size]?=w2.heap[wr.heap.size]?):=(L8 w5 ⟨g,j*10+6,none⟩ _ wr hxg).trans iY.o;have k7':(w5.setCell ⟨g,j*10+6,none⟩ (.slice oQ i.blocks.length oU)).cell? ⟨g,j*10+7,none⟩=some (.slice ga i.gone.length gc):=(World.cell?_setCell_other _ _ _ _ Zi).trans k7;have f7':(w5.setCell ⟨g,j*10+6,none⟩ (.slice oQ i.blocks.length oU)).frozen? ⟨g,j*10+7,none⟩=false:=ZP (Vu xX _ _) _;refine hK.out _ _ ?_ (fun _=>?_)
   ·exact oJ
   clear hK K;try simp only[pt]
   refine YA 18 (h:=YA 19 (h:=?_));refine Rv 20 (h:=fun K hK=>?_);go_simp;have HX7:Hid (((w5.setCell ⟨g,j*10+6,none⟩ (.slice oQ i.blocks.length oU)).setCell ⟨g,j*10+7,none⟩ (.slice eT i.gone.length eU)).heap[wr.heap.size]?=w2.heap[wr.heap.size]?):=(L8 (w5.setCell ⟨g,j*10+6,none⟩ (.slice oQ i.blocks.length oU)) ⟨g,j*10+7,none⟩ _ wr hxg).trans HX6.o;have k9':((w5.setCell ⟨g,j*10+6,none⟩ (.slice oQ i.blocks.length oU)).setCell ⟨g,j*10+7,none⟩ (.slice eT i.gone.length eU)).cell? ⟨g,j*10+9,none⟩=some (.slice pa i.Xm.length pc):=(World.cell?_setCell_other _ _ _ _ Zi).trans ((World.cell?_setCell_other _ _ _ _ Zi).trans k9);have f9':((w5.setCell ⟨g,j*10+6,none⟩ (.slice oQ i.blocks.length oU)).setCell ⟨g,j*10+7,none⟩ (.slice eT i.gone.length eU)).frozen? ⟨g,j*10+9,none⟩=false:=ZP (Vu (Vu xX _ _) _ _) _;refine hK.out _ _ ?_ (fun _=>?_)
   ·exact oJ
   clear hK K;try simp only[pt]
   refine YA 21 (h:=YA 22 (h:=?_));refine Rv 23 (h:=fun K hK=>?_);go_simp;have HX8:Hid ((((w5.setCell ⟨g,j*10+6,none⟩ (.slice oQ i.blocks.length oU)).setCell ⟨g,j*10+7,none⟩ (.slice eT i.gone.length eU)).setCell ⟨g,j*10+9,none⟩ (.slice pa' i.Xm.length nG)).heap[wr.heap.size]?=w2.heap[wr.heap.size]?):=(L8 ((w5.setCell ⟨g,j*10+6,none⟩ (.slice oQ i.blocks.length oU)).setCell ⟨g,j*10+7,none⟩ (.slice eT i.gone.length eU)) ⟨g,j*10+9,none⟩ _ wr hxg).trans HX7.o;refine hK.out _ _ ?_ (fun _=>?_)
   ·exact oJ
   clear hK K;try simp only[pt]
   refine wpAnyH_done X6 ?_ _;refine QP ?_;go_wp2_with fail
   go_roundw
   case rel=>
    have e0:Below w w w5:=R7.o.trans (iy.o.mono T8);have e1:Below w w (((w5.setCell ⟨g,j*10+6,none⟩ (.slice oQ i.blocks.length oU)).setCell ⟨g,j*10+7,none⟩ (.slice eT i.gone.length eU)).setCell ⟨g,j*10+9,none⟩ (.slice pa' i.Xm.length nG)):=((((Fr.Z8 Pj e0).setCell (p:=⟨g,j*10+6,none⟩) (WQ hwg) _).setCell (p:=⟨g,j*10+7,none⟩) (WQ hwg) _).setCell (p:=⟨g,j*10+9,none⟩) (WQ hwg) _).below;have e2:=OI (OI (OI h5o Zo (j*10+6) (.slice oQ i.blocks.length oU)) Zo (j*10+7) (.slice eT i.gone.length eU)) Zo (j*10+9) (.slice pa' i.Xm.length nG);rw[HQJ.o]at e2;have g6:=Vu xX (j*10+6) (.slice oQ i.blocks.length oU);have g7:=Vu g6 (j*10+7) (.slice eT i.gone.length eU);refine⟨j+1,_,Zo,Zn,(HMAP.o _ _ _).trans HQ.o,e2,fun x hx=>?_,e1⟩;rcases List.mem_or_eq_of_mem_set hx with hx|rfl
    ·exact((((GY.o x hx).below iy.o).setAt xX _ _).setAt g6 _ _).setAt g7 _ _
    ·have hn:TW w5 ⟨i,(.slice oQ i.blocks.length oU),(.slice eT i.gone.length eU),(.slice pa' i.Xm.length nG)⟩:=⟨Row.below (Row.below HO3.o HB34.o) HB45.o,Row.below HO4.o HB45.o,aD.o⟩;exact((hn.setAt xX _ _).setAt g6 _ _).setAt g7 _ _
   case measure=>simp[intOf];omega
  ·have K6:j=L.length:=by omega
   have HMQ:Hid (YB wr (.slice va L.length vc) (L.map (·.i))):=⟨Q,HQ.o.symm,by rw[hQl];exact Row.Z4 Yd.o,GY.o⟩;clear Yy;go_wp2;go_ret;exact⟨⟨_,rfl,HMQ.o⟩,R7.o⟩
def oP{b:List UInt8}(h:b.length<2):at8 b 1=0:=by
 unfold at8;rw[QQ,List.getElem?_eq_none Zo];rfl
def u9(v:Value)(b:List UInt8)(w:World)(hv:XU w v b) :
  Calls prog 105 #[v] w fun e w'=>(∃a,e = .returned (.tuple #[a,.int .i64 (XX b).2])∧sI w' a (XX b).1)∧Below w w w':=by
 by_cases h3:192≤at8 b 1∧at8 b 1≤223
 rotate_left
 ·exact KN v b w hv h3
 have hlen:=hv.len;have h2:¬b.length<2:=fun h=>by rw[oP h]at h3;omega
 by_cases h1:512<b.length
 ·have HX:Hid (XX b=(.none,5)):=by show _=_;unfold XX;rw[ZU h1]
  exact Yx74
 have HX:Hid (XX b=if(Yl b).2≠0 then(.none,(Yl b).2)else(.X4 (Yl b).1,0)):=by
  show _=_
  conv=>lhs;unfold XX
  rw[Z3 h1,Z3 h2,ZU h3]
 have HC:=Zh (yY v b w hv);obtain⟨g,off,c,rfl,Rt,x8,WO⟩:=Rk hv Zo;have d1:=WO 1 Zo;clear WO hv Rt x8;have hbI:(1:Int)<(b.length:Int):=by omega
 have hbN:1<b.length:=by omega
 generalize XX b=X at *;generalize Yl b=Y at *;obtain⟨L,er⟩:=Y;dsimp only at HC HX;have cr:=fun(x:Value) (w:World)=>run_makeInterface (P:=prog) w 213 x X6
 obtain⟨pE,AU⟩:=h3;generalize at8 b 1=kd at *;have l1:decide ((192:Int)≤(kd:Int))=true:=WV Zo;have l2:decide ((kd:Int)≤223)=true:=WV Zo;go_enter func105,ntmps105;go_upto_region 7 with(go_at_call 124;refine HC.o.mono ?_;rintro e w2 ⟨⟨iv,rfl,hit⟩,Y7⟩;obtain⟨ia,ic,Ci⟩:=YB.form hit;subst Ci;have GY:=Zh hit;have Yc:=Zh Y7;clear hit Y7)
 clear HC;by_cases Rl:er=0
 ·subst Rl;rw[Z3 Zi]at HX;go_wp2_with fail
  go_ret2
  exact⟨⟨_,by rw[HX.o];rfl,by rw[HX.o];exact⟨_,rfl,GY.o⟩⟩,Yc.o⟩
 ·have bl:(er !=0)=true:=by rw[Rs];exact Rl
  have bl2:(er==0)=false:=by rw[Wz];exact Rl
  rw[ZU Rl]at HX;go_wp2_with fail
  go_ret2
  exact⟨⟨.nilIface,by rw[HX.o];rfl,by rw[HX.o];rfl⟩,Yc.o⟩
def w_(v:Value)(w:World):(Instr.typeAssert (.iface 213 v) 188 97 true).run prog w = .ok (.tuple (Q4 Tu false)) w:=by kernel_rfl
def ey(v:Value)(w:World):(Instr.typeAssert (.iface 213 v) 188 213 true).run prog w = .ok (.tuple #[v,.bool true]) w:=by kernel_rfl
def F5{P:Program}{fn:Func}{p q u:Tmp}{t1 t2:TypeId}(h:fn.results=#[.cell p t1,.cell q t2,.tmp u])(tmps:Array Value)(w:World)(g1 g2:Nat)(e1 e2:TypeId)(c1 c2:Array Value)(f1 f2:Nat×Nat)(d1 d2:TypeDesc)
  (hp:tmps.getD p undef = .pointer (some ⟨g1,0,none⟩)) (hg:w.heap[g1]?=some (.cells c1 e1 f1)) (hu:P.underlying t1=some d1) (hd:(match d1 with | .struct _ | .array _ _=>true|_=>false)=true) (hi:(P.info? t1).map (·.size)=some c1.size)
  (hp2:tmps.getD q undef = .pointer (some ⟨g2,0,none⟩)) (ky:w.heap[g2]?=some (.cells c2 e2 f2)) (hu2:P.underlying t2=some d2) (nA:(match d2 with | .struct _ | .array _ _=>true|_=>false)=true) (hi2:(P.info? t2).map (·.size)=some c2.size) :
  (results fn tmps).run P w = .ok (.tuple #[.agg c1,.agg c2,tmps.getD u undef]) w:=by
 have pJ:tmps[p]?.getD undef = .pointer (some ⟨g1,0,none⟩):=by simpa using hp
 have fN:tmps[q]?.getD undef = .pointer (some ⟨g2,0,none⟩):=by simpa using hp2
 simp[results,h,pJ,fN,asAddr,run_loadVar_row w g1 e1 t1 c1 f1 d1 hg hu hd hi,run_loadVar_row w g2 e2 t2 c2 f2 d2 ky hu2 nA hi2]
def iq(iv:Value)(l:List Rc)(w:World)(hv:YB w iv l)(V9:∀i∈l,S3 i)(hl:l.length≤1000) :
  Calls prog 107 #[.iface 213 (.agg #[iv])] w fun e w'=>(∃v',e = .returned (.tuple #[.agg UO,.agg (Qd 0 false false 0),v'])∧YB w' v' l)∧Below w w w':=by
 obtain⟨ia,ic,rfl⟩:=YB.form hv;have CO:=Zh (fun(w':World) (h:Below w w w')=>Ae (.slice ia l.length ic) l w' (hv.below h) V9 hl);have as1:=w_;have as2:=ey;have e1:(w.alloc (.cells UO 79)).heap.size=w.heap.size+1:=by show(w.heap.push _).size=_;rw[N9]
 have e2:((w.alloc (.cells UO 79)).alloc (.cells (Qd 0 false false 0) 81)).heap.size=w.heap.size+2:=by show((w.heap.push _).push _).size=_;rw[N9,N9]
 have e3:(((w.alloc (.cells UO 79)).alloc (.cells (Qd 0 false false 0) 81)).alloc (.cells Tu 97)).heap.size=w.heap.size+3:=by show(((w.heap.push _).push _).push _).size=_;rw[N9,N9,N9]
 have hP:(((w.alloc (.cells UO 79)).alloc (.cells (Qd 0 false false 0) 81)).alloc (.cells Tu 97)).heap[w.heap.size]?=some (.cells UO 79 (0,0)):=by
  rw[(Z' ((w.alloc (.cells UO 79)).alloc (.cells (Qd 0 false false 0) 81)) _).block _ (by rw[e2];omega),(Z' (w.alloc (.cells UO 79)) _).block _ (by rw[e1];omega)];exact Z9 w _
 have hD:(((w.alloc (.cells UO 79)).alloc (.cells (Qd 0 false false 0) 81)).alloc (.cells Tu 97)).heap[w.heap.size+1]?=some (.cells (Qd 0 false false 0) 81 (0,0)):=by
  rw[(Z' ((w.alloc (.cells UO 79)).alloc (.cells (Qd 0 false false 0) 81)) _).block _ (by rw[e2];omega)];have h:=Z9 (w.alloc (.cells UO 79)) (.cells (Qd 0 false false 0) 81);rw[e1]at h;exact h
 have hM:(((w.alloc (.cells UO 79)).alloc (.cells (Qd 0 false false 0) 81)).alloc (.cells Tu 97)).heap[w.heap.size+2]?=some (.cells Tu 97 (0,0)):=by
  have h:=Z9 ((w.alloc (.cells UO 79)).alloc (.cells (Qd 0 false false 0) 81)) (.cells Tu 97);rw[e2]at h;exact h
 have hP2:((((w.alloc (.cells UO 79)).alloc (.cells (Qd 0 false false 0) 81)).alloc (.cells Tu 97)).setRow (w.heap.size+2) Tu).heap[w.heap.size]?=some (.cells UO 79 (0,0)):=(setRow_other _ _ _ _ Zo).trans hP;have hD2:((((w.alloc (.cells UO 79)).alloc (.cells (Qd 0 false false 0) 81)).alloc (.cells Tu 97)).setRow (w.heap.size+2) Tu).heap[w.heap.size+1]?=some (.cells (Qd 0 false false 0) 81 (0,0)):=(setRow_other _ _ _ _ Zo).trans hD;have iw:Hid (Below w w ((((w.alloc (.cells UO 79)).alloc (.cells (Qd 0 false false 0) 81)).alloc (.cells Tu 97)).setRow (w.heap.size+2) Tu)):=Z0 (ZA (ZA (Z' w _) (Zq _) _) (Zq _) _) Zo _;clear hv V9 hl e1 e2 e3 hP hD;go_enter func107,ntmps107;go_upto_region 4 with(with_reducible refine Zs hM ?_)
 clear hM;generalize((((w.alloc (.cells UO 79)).alloc (.cells (Qd 0 false false 0) 81)).alloc (.cells Tu 97)).setRow (w.heap.size+2) Tu)=w3 at *;have hl3:=ZY hP2;have hl4:=ZY hD2;have U5:Hid (Below w3 w3 (w3.alloc (.cells #[.slice ia l.length ic] 213))):=Z' w3 _;have vI:Hid (Below w w (w3.alloc (.cells #[.slice ia l.length ic] 213))):=Tr iw U5.o;have hP4:=(U5.o.block _ hl3).trans hP2;have hD4:=(U5.o.block _ hl4).trans hD2;have hl5:=ZY hP4;have hl6:=ZY hD4;clear hP2 hD2 hl3 hl4;go_wp2_with (first|(go_at_call 129;refine(CO.o _ vI.o).mono ?_;rintro e w5 ⟨⟨v',rfl,hit⟩,Nu⟩;obtain⟨ja,jc,hjv⟩:=YB.form hit;subst hjv;have hP5:=(Nu.block _ hl5).trans hP4;have hD5:=(setRow_other w5 w (w.heap.size+1) UO Zo).trans ((Nu.block _ hl6).trans hD4);have Ri:=Zh (Tr vI Nu);have GY:=Zh hit;clear Nu hit)|with_reducible refine Zs hP5 ?_|with_reducible refine Zs hD5 ?_)
 refine Vr (v:= .tuple #[.agg UO,.agg (Qd 0 false false 0),.slice ja l.length jc]) ?_ rfl ?_
 ·refine(F5 (p:=2) (q:=3) (u:=4) (t1:=79) (t2:=81) rfl _ _ w (w.heap.size+1) 79 81 UO (Qd 0 false false 0) (0,0) (0,0) _ _ Zr ((setRow_other _ _ _ _ Zo).trans (setRow_heap _ _ _ _ _ _ hP5)) underlying79 rfl X6 Zr (setRow_heap _ _ _ _ _ _ hD5) underlying81 rfl X6).trans ?_;rfl
 refine⟨⟨_,rfl,?_⟩,Z0 (Z0 Ri.o (Zq _) _) (JV _) _⟩;have k1:YB (w5.setRow w UO) (.slice ja l.length jc) l:=GY.o.fr (S6 w5 _ _) (fun k hk=>by have hk:k=w.heap.size:=hk;subst hk;exact⟨_,_,_,hP5,by decide,by decide,by decide,by decide,by decide,by decide,by decide⟩);exact k1.fr (S6 _ _ _) (fun k hk=>by have hk:k=w.heap.size+1:=hk;subst hk;exact⟨_,_,_,hD5,by decide,by decide,by decide,by decide,by decide,by decide,by decide⟩)
def zr(n:Int)(w:World):Calls prog 66 (Q5 n 8) w fun e w'=>e = .returned (.bool (Vv n 9))∧w=w':=by
 have HW:Hid (Vv n 9=(decide (1≤n)&&decide (n<9))):=rfl;generalize Vv n 9=x at *;by_cases h1:1≤n
 ·have HF:Hid (x=decide (n≤8)):=by show _=_;rw[HW.o,WV h1];simp only[Bool.true_and];exact decide_eq_decide.2 Zo
  have d1:decide (1≤n)=true:=WV h1;clear HW;go_enter func66,ntmps66;go_wp2;go_ret;exact⟨XK HF.o.symm,rfl⟩
 ·have HF:Hid (x=false):=by show _=_;rw[HW.o,WH h1];simp
  have d1:decide (1≤n)=false:=WH h1;clear HW;go_enter func66,ntmps66;go_wp2;go_ret;exact⟨XK HF.o.symm,rfl⟩
def Kz{a b:Int}(h:a=b):Ending.returned (.int .u32 a) = .returned (.int .u32 b):=by rw[h]
def F9(p s:Int)(w:World):Calls prog 37 (Q5 p s) w fun e w'=>e = .returned (.int .u32 (Xl p s))∧w=w':=by
 have CP:=Zh (zr p w);have CS:=Zh (zr s w);cases h1:Vv p 9
 ·have HF:Hid (Xl p s=0):=by show _=_;unfold Xl;rw[h1];rfl
  rw[h1]at CP;generalize Xl p s=x at *;clear CS h1;go_enter func37,ntmps37;go_wp2_with (go_at_call 66;refine CP.o.mono ?_;rintro e w' ⟨rfl,rfl⟩)
  go_ret;exact⟨Kz HF.o.symm,rfl⟩
 ·cases h2:Vv s 9
  ·have HF:Hid (Xl p s=0):=by show _=_;unfold Xl;rw[h1,h2];rfl
   rw[h1]at CP;rw[h2]at CS;generalize Xl p s=x at *;clear h1 h2;go_enter func37,ntmps37;go_wp2_with fail
   refine CP.o.mono ?_;rintro e w' ⟨rfl,rfl⟩;go_wp2_with fail
   refine CS.o.mono ?_;rintro e w' ⟨rfl,rfl⟩;go_wp2_with fail
   go_ret;exact⟨Kz HF.o.symm,rfl⟩
  ·have HF:Hid (Xl p s=3221225472+(256*p+s)):=by show _=_;unfold Xl;rw[h1,h2];rfl
   rw[h1]at CP;rw[h2]at CS;obtain⟨b1,b2⟩:=Xf.1 h1;obtain⟨b3,b4⟩:=Xf.1 h2;generalize Xl p s=x at *;clear h1 h2;go_enter func37,ntmps37;go_wp2_with fail
   refine CP.o.mono ?_;rintro e w' ⟨rfl,rfl⟩;go_wp2_with fail
   refine CS.o.mono ?_;rintro e w' ⟨rfl,rfl⟩;go_wp2_with fail
   go_ret;exact⟨Kz (by rw[HF.o]),rfl⟩
def uY(x:Int)(w:World)(h0:0≤x)(h1:x<4294967296) :
  Calls prog 160 #[.int .u32 x] w fun e w'=>e = .returned (.tuple (Q7 (UY x).1 (UY x).2.1 (UY x).2.2))∧w=w':=by
 have hw:IntKind.u32.wrap (x-3221225472)=(x+1073741824)%4294967296:=by rw[Nr];omega
 have HE:Hid (UY x=if Vv ((x+1073741824)%4294967296/256) 9&&Vv ((x+1073741824)%4294967296%256) 9 then((x+1073741824)%4294967296/256,(x+1073741824)%4294967296%256,true)else(0,0,false)):=rfl
 have hx:∀n:Int,n=(x+1073741824)%4294967296→Vv (n/256) 9=true→Vv (n%256) 9=true→3221225472+(256*(n/256)+n%256)=x:=fun n hn ha hb=>by
  rw[Xf]at ha hb;omega
 have Nh:0≤(x+1073741824)%4294967296:=by omega
 have YV:(x+1073741824)%4294967296<4294967296:=by omega
 generalize UY x=X at *;generalize(x+1073741824)%4294967296=n at *;have CO:=Zh (F9 (n/256) (n%256) w);have hq0:0≤n/256:=by omega
 have hq1:n/256<16777216:=by omega
 have hr0:0≤n%256:=by omega
 have hr1:n%256<256:=by omega
 by_cases hc:(Vv (n/256) 9&&Vv (n%256) 9)=true
 ·have hX:X=(n/256,n%256,true):=by rw[HE.o,ZU hc]
  subst hX;have Kf:=hc;rw[UN]at Kf;have e:Xl (n/256) (n%256)=x:=by unfold Xl;rw[ZU hc,hx n rfl Kf.1 Kf.2]
  rw[e]at CO;have WA:3221225472≤x:=by have:=hx n rfl Kf.1 Kf.2;omega
  have b1:(x==0)=false:=by rw[Wz];omega
  have b2:(x !=x)=false:=by simp
  clear HE hx hc Kf e;exact br
 ·have hX:X=(0,0,false):=by rw[HE.o,Z3 hc]
  subst hX;have e:Xl (n/256) (n%256)=0:=by unfold Xl;rw[Z3 hc]
  rw[e]at CO;clear HE hx hc e;exact br
def n_(b:Nat)(R:Room)(peer x:Int)(w:World)(hR:ZQ w b R)(hI:Inv R)(hl:∀n,(R.src n).ss.length≤1000000) :
  Calls prog 130 (Jd (some ⟨b,0,none⟩) peer x) w fun e w'=>(∃n l:Int,e = .returned (.tuple (Q7 n l (owned R peer x))))∧Below w w w':=by
 obtain⟨n,O2,O3,hO⟩:∃(n:Nat) (O2:Int) (O3:Bool),of R x=((n:Int),O2,O3):=⟨(of R x).1.toNat,(of R x).2.1,(of R x).2.2,by rw[Int.toNat_of_nonneg (of_lt R x).1]⟩
 have HX:Hid (owned R peer x=(O3&&decide ((R.src n).own=peer))):=by
  show _=_;unfold owned;rw[hO];rfl
 have HTH:Hid (O3=true→(R.src n).there=true):=by
  show _→_;intro h3;obtain⟨m,_,h1,_,h2⟩:=Pr (R:=R) (x:=x) (by rw[hO];exact h3);rw[hO]at h2;have h4:(n:Int)=(m:Int):=congrArg (·.1) h2;have h4:n=m:=by omega
  rw[h4];exact h1
 have COF:Hid (Calls prog 127 (Jk (some ⟨b,0,none⟩) x) w fun e w'=>e = .returned (.tuple (Q7 (n:Int) O2 O3))∧Below w w w'):=by
  have h:=Iy b R x w hR;rw[hO]at h;exact h
 have CSR:=Zh (fun(w2:World) (h:Below w w w2)=>Ny b R n w2 (hR.below h) hI hl);generalize owned R peer x=X at *;clear hO hR hI hl;cases O3 with
 | false=>
  have wU:Hid (X=false):=by show _=_;rw[HX.o];rfl
  clear HX HTH;go_enter func130,ntmps130;go_wp2_with (first|(go_at_call 127;refine COF.o.mono ?_;rintro e w2 ⟨rfl,Y7⟩;have Yc:=Zh Y7;clear Y7)|(go_at_call 81;refine(CSR.o _ Yc.o).mono ?_;rintro e w3 ⟨⟨nm,ow,a,k,c,mu,has,rfl,D5,Cn⟩,WM⟩;have WB:=Zh (Tr Yc WM);clear WM D5 Cn))
  go_ret3
  exact⟨⟨0,0,by rw[wU.o];rfl⟩,ZA WB.o (Zq _) _⟩
 | true=>
  by_cases hp:(R.src n).own=peer
  ·have wU:Hid (X=true):=by show _=_;rw[HX.o,WV hp];rfl
   have HP:=Zh hp;clear HX hp;go_enter func130,ntmps130;go_wp2_with (first|(go_at_call 127;refine COF.o.mono ?_;rintro e w2 ⟨rfl,Y7⟩;have Yc:=Zh Y7;clear Y7)|(go_at_call 81;refine(CSR.o _ Yc.o).mono ?_;rintro e w3 ⟨⟨nm,ow,a,k,c,mu,has,rfl,D5,Cn⟩,WM⟩;have WB:=Zh (Tr Yc WM);have pI:ow=peer:=((Cn (by rw[D5];exact HTH.o Ai)).trans HP.o);have py:(ow !=peer)=false:=(by rw[pI];simp);have hbb2:(ow==peer)=true:=(by rw[pI];simp);clear WM D5 Cn pI))
   go_ret3
   exact⟨⟨(n:Int),O2,by rw[wU.o];rfl⟩,ZA WB.o (Zq _) _⟩
  ·have wU:Hid (X=false):=by show _=_;rw[HX.o,WH hp];rfl
   have HP:=Zh hp;clear HX hp;go_enter func130,ntmps130;go_wp2_with (first|(go_at_call 127;refine COF.o.mono ?_;rintro e w2 ⟨rfl,Y7⟩;have Yc:=Zh Y7;clear Y7)|(go_at_call 81;refine(CSR.o _ Yc.o).mono ?_;rintro e w3 ⟨⟨nm,ow,a,k,c,mu,has,rfl,D5,Cn⟩,WM⟩;have WB:=Zh (Tr Yc WM);have pI:=Cn (by rw[D5];exact HTH.o Ai);have WA:ow≠peer:=(by rw[pI];exact HP.o);have py:(ow !=peer)=true:=(by rw[Rs];exact WA);have hbb2:(ow==peer)=false:=(by rw[Wz];exact WA);clear WM D5 Cn pI WA))
   go_ret3
   exact⟨⟨0,0,by rw[wU.o];rfl⟩,ZA WB.o (Zq _) _⟩
def n9(b:Nat)(R:Room)(peer x:Int)(w:World)(hR:ZQ w b R)(h0:0≤x)(h1:x<4294967296) :
  Calls prog 131 (Jd (some ⟨b,0,none⟩) peer x) w fun e w'=>(∃n:Int,e = .returned (.tuple (Jc n (Ul R peer x))))∧Below w w w':=by
 have CW:=Zh (uY x w h0 h1);have HX:Hid (Ul R peer x=((UY x).2.2&&decide ((UY x).1=peer)&&Ze R peer (UY x).2.1)):=rfl;generalize UY x=W at *;obtain⟨wp,ws,wk⟩:=W;dsimp only at CW HX;have CS:=Zh (Ag b R peer ws w hR);generalize Ul R peer x=X at *;generalize Ze R peer ws=hv at *;generalize(R.sub ws.toNat peer.toNat).want=s1 at *;generalize(R.sub ws.toNat peer.toNat).ZV=s2 at *;clear hR h0 h1;cases wk with
 | false=>
  have wU:Hid (X=false):=by show _=_;rw[HX.o];rfl
  clear HX;cases hv with
  | false=>
   rw[Z3 Zi]at CS;exact jw
  | true=>
   rw[ZU rfl]at CS;exact jw
 | true=>
  by_cases hp:wp=peer
  ·subst hp;cases hv with
   | false=>
    have wU:Hid (X=false):=by show _=_;rw[HX.o];simp
    rw[Z3 Zi]at CS;clear HX;exact jw
   | true=>
    have wU:Hid (X=true):=by show _=_;rw[HX.o];simp
    rw[ZU rfl]at CS;clear HX;go_enter func131,ntmps131;go_wp2_with (first|(go_at_call 160;refine CW.o.mono ?_;rintro e w2 ⟨rfl,rfl⟩)|(go_at_call 83;refine CS.o.mono ?_;rintro e w3 ⟨rfl,WM⟩;have WB:=Zh WM;clear WM))
    go_ret2
    exact⟨⟨ws,by rw[wU.o];rfl⟩,ZA WB.o (Zq _) _⟩
  ·have wU:Hid (X=false):=by show _=_;rw[HX.o,WH hp];simp
   have py:(wp !=peer)=true:=by rw[Rs];exact hp
   have hbb2:(wp==peer)=false:=by rw[Wz];exact hp
   clear HX hp;cases hv with
   | false=>
    rw[Z3 Zi]at CS;exact jw
   | true=>
    rw[ZU rfl]at CS;exact jw
def Gh{l:List Int}{k:Nat}(h:k<l.length):l.take (k+1)=l.take k++[l.getD k 0]:=by
 rw[List.take_succ_eq_append_getElem h,QQ,U' h];rfl
def sS(b:Nat)(R:Room)(peer:Int)(x:Rj)(w:World)(hR:ZQ w b R)(hI:Inv R)(hS:Wc R)(V9:S3 x.i)(hx:TW w x) :
  Calls prog 108 (Jm (some ⟨b,0,none⟩) peer (YJ x).toArray) w fun e w'=>
   (∃v,e = .returned (.tuple #[v,.int .i64 (X_ R peer x.i).2])∧Yx w' v (X_ R peer x.i).1.1)∧ZQ w' b (X_ R peer x.i).1.2∧Fr w (· = b) w w':=by
 obtain⟨i,bv,gv,pv⟩:=x;obtain⟨ba,bc,ku⟩:=Row.form hx.b;obtain⟨ga,gc,tX⟩:=Row.form hx.g;obtain⟨pa,pc,Mk⟩:=Row.form hx.p;have gT:=hx.g;obtain⟨kd,ss,nt,tm,pk,oc,bs,gn,md,ps⟩:=i;have pG:=V9.m0;have AW:=V9.m1;have zK:=V9.g;clear V9 hx;dsimp only at ku tX Mk gT pG AW zK ⊢;subst ku;subst tX;subst Mk;dsimp only[YJ];have VA:Hid (Below w w (w.alloc (.cells (Qe kd ss nt tm pk oc ba bs.length bc ga gn.length gc md pa ps.length pc) 173))):=Z' w _;have hz:=Z9 w (.cells (Qe kd ss nt tm pk oc ba bs.length bc ga gn.length gc md pa ps.length pc) 173);have HR:=Zh hR;have JM:=Zh (hR.below VA.o);have hb:=hR.lt;have GY:Hid (X_ R peer ⟨kd,ss,nt,tm,pk,oc,bs,gn,md,ps⟩=if kd=200 then(([],R),if owned R peer ss then 0 else 1)else if kd=205∨kd=206 then(([],R),if Ul R peer md then 0 else 1)else if kd=203 then Y6 peer gn R else(([],R),0)):=rfl;generalize X_ R peer ⟨kd,ss,nt,tm,pk,oc,bs,gn,md,ps⟩=X at *;generalize bs.length=bl at *;generalize ps.length=pl at *;by_cases Lz:kd=200
 ·subst Lz;have Vc:Hid (X=(([],R),if owned R peer ss then 0 else 1)):=by show _=_;rw[GY.o];simp
  have CO:=Zh (n_ b R peer ss _ JM.o hI hS.short);clear GY hI hS gT hR pG AW zK;generalize owned R peer ss=O at *;cases O with
  | false=>
   have HX:Hid (X=(([],R),1)):=by show _=_;rw[Vc.o];rfl
   exact Yx64
  | true=>
   have HX:Hid (X=(([],R),0)):=by show _=_;rw[Vc.o];rfl
   exact Yx64
 by_cases um:kd=205
 ·subst um;exact Yx83
 by_cases pV:kd=206
 ·subst pV;exact Yx83
 have e1:(kd==200)=false:=by rw[Wz];exact Lz
 have e2:(kd==205)=false:=by rw[Wz];exact um
 have e3:(kd==206)=false:=by rw[Wz];exact pV
 have Mb:Hid (X=if kd=203 then Y6 peer gn R else(([],R),0)):=by show _=_;rw[GY.o,Z3 Lz,Z3 Zo]
 clear GY pG AW;by_cases Ha:kd=203
 rotate_left
 ·have HX:Hid (X=(([],R),0)):=by show _=_;rw[Mb.o,Z3 Ha]
  have e4:(kd==203)=false:=by rw[Wz];exact Ha
  have e5:(kd !=203)=true:=by rw[Rs];exact Ha
  have Ri:=VA;clear Mb gT hI hS hR;go_enter func108,ntmps108;go_wp2_with fail
  go_ret2
  exact⟨⟨.slice none 0 0,by rw[HX.o];rfl,by rw[HX.o];exact Row.nil _ _⟩,by rw[HX.o];exact HR.o.below Ri.o,Fr.Z8 _ Ri.o⟩
 subst Ha;have HX:Hid (X=Y6 peer gn R):=by show _=_;rw[Mb.o,ZU rfl]
 have HGR:=Zh gT;have HTY:Hid (∀k c fr,k=b→w.heap[k]?≠some (.cells c 66 fr)):=hR.EA Zd
 have aA:Hid (∀j,Inv (Y6 peer (gn.take j) R).1.2∧(Y6 peer (gn.take j) R).1.1.length≤18*(gn.take j).length∧0≤(Y6 peer (gn.take j) R).2∧(Y6 peer (gn.take j) R).2≤(gn.take j).length):=fun j=>by
  have h:=PT peer (gn.take j) R hI hS;exact⟨h.1,h.2.2⟩
 clear Mb gT hI hS e1 e2 e3 Lz um pV;go_enter func108,ntmps108;go_wp2_with fail
 go_loopw [6,7,45] (fun s6 s7 s45 w'=>∃j:Nat,j≤gn.length∧s45 = .int .i64 (j:Int)∧s7 = .int .i64 (Y6 peer (gn.take j) R).2∧Fr w (· = b) w w'∧ZQ w' b (Y6 peer (gn.take j) R).1.2∧w'.ownsRow w 158 5 s6 (Y6 peer (gn.take j) R).1.1.length ((Y6 peer (gn.take j) R).1.1.flatMap Z7)) (fun _ _ s45 _=>gn.length-(intOf s45).toNat)
 case atStart=>exact⟨0,Zo,rfl,rfl,Fr.Z8 _ VA.o,JM.o,TH _ _ _ _⟩
 case round=>
  obtain⟨j,hj,rfl,rfl,Wb,Xh,Yy⟩:=hrel;have TN:=Zh Wb;have Xr:=Zh Xh;have Yd:=Zh Yy;have T8:=Wb.size;obtain⟨oa,oc',hs6,-⟩:=Row.Z4 Yy;subst hs6;clear Wb Xh Yy;by_cases RZ:j<gn.length
  ·have ZW:=HGR.o.fr TN.o (Zq _) HTY.o;obtain⟨g',off',cap',e1,-,-,hg',Yp⟩:=M0 (l:=gn) ZW Zo;cases e1;have hc:=Yp j RZ;have HT:=Zh (Gh RZ);have Ci:=aA.o j;have fB:=tJ;rw[SC]at Ci;obtain⟨-,hi2,hi3,hi4⟩:=Ci;clear Yp ZW;generalize gn.getD j 0=p at *;have HS:=Zh (NF peer p (gn.take j) R);have CG:=Zh (wj b (Y6 peer (gn.take j) R).1.2 peer p wr Xr.o);have zV:=Lp (Y6 peer (gn.take j) R).1.2 peer p;generalize Y6 peer (gn.take j) R=G at *;generalize YM G.1.2 peer p=Y at *;obtain⟨⟨Y1,Y2⟩,ye⟩:=Y;obtain⟨⟨G1,G2⟩,gu⟩:=G;dsimp only at CG HS zV Xr Yd hi2 hi3 hi4;by_cases hye:ye=0
   ·subst hye;have Pz:Hid (Y6 peer (gn.take j++[p]) R=((G1++Y1,Y2),gu)):=by show _=_;rw[HS.o];simp[xA]
    exact Yx40
   ·have H8:(ye==0)=false:=by rw[Wz];exact hye
    have fM:(ye !=0)=true:=by rw[Rs];exact hye
    have Pz:Hid (Y6 peer (gn.take j++[p]) R=((G1++Y1,Y2),gu+1)):=by show _=_;rw[HS.o];simp[xA,hye]
    exact Yx40
  ·have K6:j=gn.length:=by omega
   have hT:gn.take j=gn:=by rw[K6,nv]
   rw[hT]at Xr Yd ⊢;clear aA HGR;generalize Y6 peer gn R=G at *;go_wp2
   go_ret2
   exact⟨⟨_,by rw[HX.o];rfl,by rw[HX.o];exact Row.Z4 Yd.o⟩,by rw[HX.o];exact Xr.o,TN.o⟩
def XO{w w':World}{base:Nat}{e:TypeId}{size:Nat}{v:Value}{n:Nat}{xs:List Value}(h:w.ownsRow base e size v n xs)(hb:∀k,v.ownBlock=some k→w'.heap[k]?=w.heap[k]?):w'.ownsRow base e size v n xs:=by
 obtain⟨hl,h⟩:=h;refine⟨hl,?_⟩;rcases h with h|⟨g,cap,cur,rfl,hg,hh,h1,h2,h3,h4⟩
 ·exact WQ h
 ·exact WG ⟨g,cap,cur,rfl,hg,(hb g rfl).trans hh,h1,h2,h3,h4⟩
def LL.below{w w':World}{v:Value}{L:List Rj}(h:LL w v L)(hb:Below w w w'):LL w' v L:=⟨h.row.below hb,fun x hx=>(h.each x hx).below hb⟩
def LL.fr{w w':World}{v:Value}{L:List Rj}{S:Nat→Prop}(h:LL w v L)(hf:Fr w S w w')(hS:LH w S):LL w' v L:=
 ⟨Row.fr h.row hf (Zq _) (hS.ne Zi),fun x hx=>⟨Row.fr (h.each x hx).b hf (Zq _) (hS.ne Zi),Row.fr (h.each x hx).g hf (Zq _) (hS.ne Zi),Row.fr (h.each x hx).p hf (Zq _) (hS.ne Zi)⟩⟩
def Bp(iv tv u:Value):Array Value:=#[.int .i64 0,.int .i64 0,.int .i64 0,.int .i64 0,.bool false,.int .i64 0,.int .u16 0,.int .u32 0,.int .u32 0,.slice none 0 0,.bool false,.int .u16 0,.slice none 0 0,.slice none 0 0,.int .i64 0,.int .i64 0,.bool false,.bool false,.int .u16 0,iv,tv,u]
structure DL(w w':World)(g b k:Nat)(ep:Int)(oc:Array Value)(iv:Value)(LV:List Rj)(nz:Value)(cu:Int)(tv:Value)(ts:List Yz)(Q:Room):Prop where
 fr:Fr w (fun j=>j=b∨j=g) w w'
 op:w'.heap[w.heap.size]?=some (.cells oc 32 (0,0))
 z:w'.heap[w.heap.size+1]?=some (.cells W_ 100 (0,0))
 Y8:w'.heap[k]?=some (.cells (Bp iv nz (.int .i64 cu)) 100 (0,0))
 its:LL w' iv LV
 own:w'.ownsRow w 158 5 tv ts.length (ts.flatMap Z7)
 TJ:X5 w' g b Q ep
 kl:w.heap.size+1<k
 bl:b<w.heap.size
 gl:g<w.heap.size
section
variable {w w1 w2:World} {g b k:Nat} {ep:Int} {oc:Array Value} {iv:Value} {LV:List Rj} {nz:Value} {cu:Int} {tv:Value} {ts:List Yz} {Q:Room}
def DL.below(h:DL w w1 g b k ep oc iv LV nz cu tv ts Q)(hb:Below w1 w1 w2):DL w w2 g b k ep oc iv LV nz cu tv ts Q:=
 ⟨h.fr.trans (Fr.Z8 _ (hb.mono h.fr.size)),(hb.block _ (ZY h.op)).trans h.op,(hb.block _ (ZY h.z)).trans h.z,(hb.block _ (ZY h.Y8)).trans h.Y8,h.its.below hb,Yq h.own hb,h.TJ.below hb,h.kl,h.bl,h.gl⟩
def DL.item(h:DL w w1 g b k ep oc iv LV nz cu tv ts Q){Q':Room}(hr:ZQ w2 b Q')(hf:Fr w1 (· = b) w1 w2):DL w w2 g b k ep oc iv LV nz cu tv ts Q':=by
 have hb:=h.bl;have hk:=h.kl;exact⟨h.fr.trans (hf.mono h.fr.size (fun _ _ h=>WQ h)),(hf.block _ (ZY h.op) Zo).trans h.op,(hf.block _ (ZY h.z) Zo).trans h.z,(hf.block _ (ZY h.Y8) Zo).trans h.Y8,h.its.fr hf (fun j hj=>h.TJ.apart j (WQ hj)),V_ h.own hf (fun j hj=>by have hj:j=b:=hj;omega),⟨(hf.block g (ZY h.TJ.Y8) h.TJ.ne).trans h.TJ.Y8,hr⟩,h.kl,h.bl,h.gl⟩
def DL.grown(h:DL w w1 g b k ep oc iv LV nz cu tv ts Q)(hg:w1.grownBy w2 tv.ownBlock){tv':Value}{ts':List Yz}(ho:w2.ownsRow w 158 5 tv' ts'.length (ts'.flatMap Z7)):DL w w2 g b k ep oc iv LV nz cu tv' ts' Q:=by
 have WA:∀ {j c e f},w1.heap[j]?=some (.cells c e f)→e≠158→tv.ownBlock≠some j:=fun hj he ho=>Y0 h.own he _ _ _ ho hj
 have hf:=XN hg;have ht:∀e,e≠158→∀j c fr,tv.ownBlock=some j→w1.heap[j]?≠some (.cells c e fr):=fun e he=>Y0 h.own he
 exact⟨h.fr.grown hg h.fr.size (YG h.own),(hg.block _ (ZY h.op) (fun e=>WA h.op Zd e.symm)).trans h.op,(hg.block _ (ZY h.z) (fun e=>WA h.z Zd e.symm)).trans h.z,(hg.block _ (ZY h.Y8) (fun e=>WA h.Y8 Zd e.symm)).trans h.Y8,
  ⟨Row.fr h.its.row hf (Zq _) (ht _ Zd),fun x hx=>(h.its.each x hx).vT hf (ht _ Zd) (ht _ Zd) (ht _ Zd)⟩,ho,
  ⟨(hg.block _ (ZY h.TJ.Y8) (fun e=>WA h.TJ.Y8 Zd e.symm)).trans h.TJ.Y8,ZQ.grown h.TJ.room h.own hg h.bl Zd⟩,h.kl,h.bl,h.gl⟩
def DL.set(h:DL w w1 g b k ep oc iv LV nz cu tv ts Q)(o:Nat)(v ctv':Value)(cu':Int)(hc:(Bp iv nz (.int .i64 cu)).setIfInBounds o v=Bp iv ctv' (.int .i64 cu')):DL w (w1.setCell ⟨k,o,none⟩ v) g b k ep oc iv LV ctv' cu' tv ts Q:=by
 have hk:=h.kl;have hb:=h.bl;have zK:=h.gl;have hf:Fr w1 (· = k) w1 (w1.setCell ⟨k,o,none⟩ v):=(Fr.refl _ _ _).setAt _ _
 have GH:∀e,100≠e→∀j c fr,j=k→w1.heap[j]?≠some (.cells c e fr):=by
  intro e he j c fr hj hc;rw[hj,h.Y8]at hc;injection hc with hc
  injection hc with _ hc
  exact he hc
 have kU:=Vu h.Y8 o v;rw[hc]at kU
 exact⟨h.fr.setCell (p:=⟨k,o,none⟩) (WQ (by show _≤k;omega)) _,(hf.block _ (ZY h.op) Zo).trans h.op,(hf.block _ (ZY h.z) Zo).trans h.z,kU,
  h.its.fr hf (fun j hj=>by have hj:j=k:=hj;subst hj;exact⟨_,_,_,h.Y8,by decide,by decide,by decide,by decide,by decide,by decide,by decide⟩),
  XO h.own (fun j hj=>by
   by_cases H7:j=k
   ·subst H7;exact absurd h.Y8 (Y0 h.own Zd _ _ _ hj)
   ·exact L8 w1 ⟨k,o,none⟩ _ j H7),
  ⟨(hf.block g (ZY h.TJ.Y8) Zo).trans h.TJ.Y8,h.TJ.room.fr hf (Zq _) Zo (GH _ Zd)⟩,h.kl,h.bl,h.gl⟩
def DL.facts(h:DL w w1 g b k ep oc iv LV nz cu tv ts Q):w1.cell? ⟨k,20,none⟩=some nz∧w1.cell? ⟨k,21,none⟩=some (.int .i64 cu)∧w1.frozen? ⟨k,20,none⟩=false∧w1.frozen? ⟨k,21,none⟩=false:=
 ⟨Zc h.Y8 20 rfl,Zc h.Y8 21 rfl,ZP h.Y8 20,ZP h.Y8 21⟩
end
def QD{α:Type}{l:List α}{k:Nat}{x:α}(h:l[k]?=some x):l.take (k+1)=l.take k++[x]:=by
 obtain⟨h1,h2⟩:=List.getElem?_eq_some_iff.1 h;rw[List.take_succ_eq_append_getElem h1,h2]
def DW(g b:Nat)(R:Room)(ep kd peer src ly:Int)(nm:ByteArray)(sa ba:Option Addr)(sl sc bl bc:Nat)(l:List UInt8)(w:World)(hD:X5 w g b R ep)(hI:Inv R)(hS:Wc R)(h0:0≤ep)(h9:ep<1000000000)(hv:XU w (.slice ba bl bc) l)(h3:192≤at8 l 1∧at8 l 1≤223) :
  Calls prog 76 (Qi (some ⟨g,0,none⟩) (Qa kd peer src ly nm sa sl sc ba bl bc)) w fun e w'=>(∃cs:List Value,e = .returned (.agg cs.toArray)∧X8 w' cs (YD R ep peer l).1.1)∧X5 w' g b (YD R ep peer l).1.2 (YD R ep peer l).2∧Fr w (fun k=>k=b∨k=g) w w':=by
 have HX:Hid (YD R ep peer l=if(XX l).2≠0 then((Ya 3 (XX l).2,R),ep)else if !Y5 R peer then((Ya 4 0,R),ep)else match(XX l).1 with
  | .XS p d=>((VK R ep peer p d,R),ep)
  | .X4 l=>((Uc (ep+1) l (Zw peer l R).1.1 (Zw peer l R).2,(Zw peer l R).1.2),ep+1)
  | .none=>((Uc (ep+1) [] [] 0,R),ep+1)):=rfl
 have LK:Hid ((XX l).2=0→(XX l).1 = .X4 (Yl l).1):=fun h=>OT h3 h
 have Pg:=Zh (S9 l);have zK:=hD.cells.2.2.2;have WO:=hD.room.lt;have tW:=hD.ne
 have yh:((w.alloc (.cells (Qa kd peer src ly nm sa sl sc ba bl bc) 32)).alloc (.cells W_ 100)).heap[w.heap.size]?=some (.cells (Qa kd peer src ly nm sa sl sc ba bl bc) 32 (0,0)):=by
  rw[(Z' _ _).block _ Ah];exact Z9 w _
 have hz:((w.alloc (.cells (Qa kd peer src ly nm sa sl sc ba bl bc) 32)).alloc (.cells W_ 100)).heap[w.heap.size+1]?=some (.cells W_ 100 (0,0)):=by
  exact Yx49
 have JJ:Below w w ((w.alloc (.cells (Qa kd peer src ly nm sa sl sc ba bl bc) 32)).alloc (.cells W_ 100)):=ZA (Z' w _) (Zq _) _;have aw:=Zh hD;have BB:Hid (X5 ((w.alloc (.cells (Qa kd peer src ly nm sa sl sc ba bl bc) 32)).alloc (.cells W_ 100)) g b R ep):=hD.below JJ;have CS:=Zh (u9 _ l ((w.alloc (.cells (Qa kd peer src ly nm sa sl sc ba bl bc) 32)).alloc (.cells W_ 100)) (hv.below JJ));have Iw:=Zh yh;have HZ:=Zh hz;have Ri:=Zh JJ;clear hD hv yh hz JJ h3;generalize YD R ep peer l=X at *;generalize XX l=Y at *;generalize(Yl l).1=IL at *;obtain⟨ev,er⟩:=Y;dsimp only at HX LK CS;go_enter func76,ntmps76;go_upto_region 2 with(go_at_call 105;refine CS.o.mono ?_;rintro e w2 ⟨⟨a,rfl,LQ⟩,Y7⟩;have BC:=Zh LQ;have Yc:=Zh Y7;clear LQ Y7)
 clear CS;generalize((w.alloc (.cells (Qa kd peer src ly nm sa sl sc ba bl bc) 32)).alloc (.cells W_ 100))=w1 at *
 have Zv:Hid (∀w',Below w1 w1 w'→w'.cell? ⟨g,0,none⟩=some (.pointer (some ⟨b,0,none⟩))∧w'.cell? ⟨w,1,none⟩=some (.int .i64 peer)):=fun w' h=>
  ⟨(BB.o.below h).cells.1,by rw[cell_of ((h.block w (ZY Iw.o)).trans Iw.o) 1];rfl⟩
 have Ur:Hid (∀w' cs T,Below w w w'→X8 w' cs T→X=((T,R),ep)→(∃cs':List Value,Ending.returned (.agg cs.toArray) = .returned (.agg cs'.toArray)∧X8 w' cs' X.1.1)∧X5 w' g b X.1.2 X.2∧Fr w (fun k=>k=b∨k=g) w w'):=fun w' cs T h1 h2 h3=>by
  rw[h3];exact⟨⟨cs,rfl,h2⟩,aw.o.below h1,Fr.Z8 _ h1⟩
 by_cases Rl:er=0
 ·subst Rl;rw[Z3 Zi]at HX;have hpd:=LK.o rfl;subst hpd;dsimp only at HX;have HJ:=Zh (Tc b R peer w2.drew ((BB.o.room.below Yc.o).below (YE _ _).drew));go_upto_region 4 with fail
  refine RX ?_;refine wp_region_held_drew (S:=(fun w'=>w'.cell? ⟨g,0,none⟩=some (.pointer (some ⟨b,0,none⟩))∧w'.cell? ⟨w,1,none⟩=some (.int .i64 peer))) X6 ?_ (fun XY=>?_)
  ·exact Zv.o _ Yc.o.drew
  refine YA 0 (h:=YA 1 (h:=YA 2 (h:=YA 3 (h:=YA 4 (h:=YA 5 (h:=?_))))));refine Rv 6 (h:=fun K hK=>?_);go_simp;refine HJ.o.mono ?_;rintro e w' ⟨rfl,rfl⟩;go_wp2_with fail
  refine hK.out _ _ ?_ (fun XC=>?_)
  ·exact Zv.o _ Yc.o.drew
  clear hK K;try simp only[pt]
  refine YA 7 (h:=?_);refine wpAnyH_done X6 ?_ _;refine QP ?_;clear XY XC Zv;have WB:Hid (Below w1 w1 w2.drew):=Yc.o.drew;have iA:Hid (sI w2.drew a (.X4 IL)):=BC.o.below (YE _ _).drew;clear Yc BC HJ;generalize w2.drew=w3 at *;clear w2;by_cases hj:Y5 R peer=true
  ·rw[hj,Z3 Zi]at HX;rw[hj];have as1:=w_;obtain⟨iv,ha,hP⟩:=iA.o;subst ha;have hM:=Z9 w3 (.cells Tu 97);have U5:Hid (Below w3 w3 ((w3.alloc (.cells Tu 97)).setRow w3 Tu)):=Z0 (Z' w3 _) (Zq _) _;have HP:=Zh hP;clear iA hP;go_upto_region 9 with(with_reducible refine Zs hM ?_)
   clear hM;generalize((w3.alloc (.cells Tu 97)).setRow w3 Tu)=w4 at *;have CF:=Zh (iq iv IL w4 (HP.o.below U5.o) Pg.o.1 (by have:=Pg.o.2;omega));have HB14:Hid (Below w1 w1 w4):=Tr WB U5.o;clear WB U5 HP;go_upto_region 10 with(first|(go_at_call 107;refine CF.o.mono ?_;rintro e w5 ⟨⟨v',rfl,hit⟩,Nu⟩;have hs5:(w5.alloc (.cells UO 79)).heap.size=w5.heap.size+1:=(by show(w5.heap.push _).size=_;rw[N9]);have hzp:((w5.alloc (.cells UO 79)).alloc (.cells (Qd 0 false false 0) 81)).heap[w5.heap.size]?=some (.cells UO 79 (0,0)):=(by rw[(Z' _ _).block _ (by rw[hs5];exact Nat.lt_succ_self _)];exact Z9 w5 _);have hzd:(((w5.alloc (.cells UO 79)).alloc (.cells (Qd 0 false false 0) 81)).setRow w5 UO).heap[w5.heap.size+1]?=some (.cells (Qd 0 false false 0) 81 (0,0)):=(by rw[setRow_other _ _ _ _ Zo];have h:=Z9 (w5.alloc (.cells UO 79)) (.cells (Qd 0 false false 0) 81);rw[hs5]at h;exact h);have HB15:=Zh (Tr HB14 Nu);have GY:=Zh hit;clear hit Nu)|with_reducible refine Zs hzp ?_|with_reducible refine Zs hzd ?_)
   have HB56:Hid (Below w5 w5 ((((w5.alloc (.cells UO 79)).alloc (.cells (Qd 0 false false 0) 81)).setRow w5 UO).setRow (w5.heap.size+1) (Qd 0 false false 0))):=Z0 (Z0 (ZA (Z' w5 _) (Zq _) _) (Zq _) _) (JV _) _;have iG:=Zh (GY.o.below HB56.o);have cP:Hid (Below w1 w1 ((((w5.alloc (.cells UO 79)).alloc (.cells (Qd 0 false false 0) 81)).setRow w5 UO).setRow (w5.heap.size+1) (Qd 0 false false 0))):=Tr HB15 HB56.o;clear hzp hzd hs5 HB56 GY HB15 CF HB14;generalize((((w5.alloc (.cells UO 79)).alloc (.cells (Qd 0 false false 0) 81)).setRow w5 UO).setRow (w5.heap.size+1) (Qd 0 false false 0))=w6 at *;obtain⟨LV,hLV,ZW,bY⟩:=iG.o;obtain⟨va,vc,fV⟩:=Row.form ZW;subst fV;have hlen:LV.length≤8:=by have h:=Pg.o.2;rw[hLV,Te]at h;exact h
   have hz12:=Z9 w6 (.cells W_ 100);go_upto_region 11 with(with_reducible refine Zs hz12 ?_)
   have hb67:Below w6 w6 ((w6.alloc (.cells W_ 100)).setRow w6 (Qm 0 0 0 0 false 0 0 0 0 none 0 0 false 0 none 0 0 none 0 0 0 0 false false 0 va LV.length vc none 0 0 0)):=Z0 (Z' w6 _) (Zq _) _;have kq:Below w1 w1 ((w6.alloc (.cells W_ 100)).setRow w6 (Qm 0 0 0 0 false 0 0 0 0 none 0 0 false 0 none 0 0 none 0 0 0 0 false false 0 va LV.length vc none 0 0 0)):=Tr cP hb67
   have HDL0:Hid (DL w ((w6.alloc (.cells W_ 100)).setRow w6 (Qm 0 0 0 0 false 0 0 0 0 none 0 0 false 0 none 0 0 none 0 0 0 0 false false 0 va LV.length vc none 0 0 0)) g b w6 ep (Qa kd peer src ly nm sa sl sc ba bl bc) (.slice va LV.length vc) LV (.slice none 0 0) 0 (.slice none 0 0) [] R):=
    ⟨Fr.Z8 _ (Tr Ri kq),(kq.block _ (ZY Iw.o)).trans Iw.o,(kq.block _ (ZY HZ.o)).trans HZ.o,setRow_heap _ _ _ _ _ _ hz12,LL.below ⟨ZW,bY⟩ hb67,TH _ _ _ _,BB.o.below kq,Od (ZY HZ.o) cP.o.size,WO,zK⟩
   clear hz12 hb67 kq ZW bY iG cP;generalize((w6.alloc (.cells W_ 100)).setRow w6 (Qm 0 0 0 0 false 0 0 0 0 none 0 0 false 0 none 0 0 none 0 0 0 0 false false 0 va LV.length vc none 0 0 0))=w7 at *;generalize w6.heap.size=k at *;have aA:Hid (∀j,Inv (Zw peer (IL.take j) R).1.2∧Wc (Zw peer (IL.take j) R).1.2∧(Zw peer (IL.take j) R).1.1.length≤3000*(IL.take j).length∧0≤(Zw peer (IL.take j) R).2∧(Zw peer (IL.take j) R).2≤1000*(IL.take j).length):=fun j=>P4 peer (IL.take j) R hI hS (fun i hi=>Pg.o.1 i (List.mem_of_mem_take hi))
   have iH:=Zh hLV;go_wp2_with fail
   go_loopw [57] (fun s57 w'=>∃(j:Nat) (tv:Value),j≤LV.length∧s57 = .int .i64 (j:Int)∧DL w w' g b k ep (Qa kd peer src ly nm sa sl sc ba bl bc) (.slice va LV.length vc) LV tv (Zw peer (IL.take j) R).2 tv (Zw peer (IL.take j) R).1.1 (Zw peer (IL.take j) R).1.2) (fun s57 _=>LV.length-(intOf s57).toNat)
   case atStart=>exact⟨0,.slice none 0 0,Zo,rfl,HDL0.o⟩
   case round=>
    obtain⟨j,tv,hjL,rfl,rQ⟩:=hrel;have qY:=Zh rQ;clear HDL0;by_cases RZ:j<LV.length
    ·obtain⟨ta,tc,lh,-⟩:=Row.Z4 rQ.own;subst lh;obtain⟨g',off',e2,V5⟩:=uj rQ.its.row Zo;cases e2;have hxj:LV[j]?=some LV[j]:=U' RZ;have V5:=V5 j _ hxj;have LR:=rQ.its.each LV[j] (O6 RZ);have V9:S3 LV[j].i:=Pg.o.1 _ (by rw[iH.o];exact vS.2 ⟨_,O6 RZ,rfl⟩);have hTK:IL.take (j+1)=IL.take j++[LV[j].i]:=QD (by rw[iH.o,List.getElem?_map,hxj];rfl);generalize LV[j]=x at *;clear hxj;obtain⟨i,bv,gv,pv⟩:=x;obtain⟨xa,xc,ku⟩:=Row.form LR.b;obtain⟨ga,gc,tX⟩:=Row.form LR.g;obtain⟨pa,pc,Mk⟩:=Row.form LR.p;dsimp only at ku tX Mk V9 hTK;subst ku;subst tX;subst Mk;have Nk:wr.rangeAt g' (off'+j*10) (Jt i xa xc ga gc pa pc):=fun m v hm=>(V5 m jl).trans hm
     have JO:=Zh hTK;have Lc:=Zh (NI peer i (IL.take j) R);have vL:=Zh LR;have HOKI:=Zh V9;obtain⟨hv1,hv2,hv3,hv4,hv5⟩:=aA.o j;rw[SC]at hv3 hv5;have Cj:(j:Int)<(LV.length:Int):=PM.2 RZ;have hz:=Z9 wr (.cells X9 173);have Nv:=setRow_heap _ _ _ (Jt i xa xc ga gc pa pc) _ _ hz;have Yc:Hid (Below wr wr ((wr.alloc (.cells X9 173)).setRow wr (Jt i xa xc ga gc pa pc))):=Z0 (Z' wr _) (Zq _) _;clear V5 LR V9 hTK rQ;go_upto_region 14 with(first|with_reducible refine Zm Nk underlying173 ?_|with_reducible refine Zs hz ?_)
     clear hz Nk;have cU:=Zh (qY.o.below Yc.o);have HIR2:=Zh (vL.o.below Yc.o);generalize((wr.alloc (.cells X9 173)).setRow wr (Jt i xa xc ga gc pa pc))=w2 at *;clear qY vL Yc;generalize Zw peer (IL.take j) R=G at *;obtain⟨⟨G1,G2⟩,gu⟩:=G;dsimp only at Lc cU hv1 hv2 hv3 hv4 hv5;have CI:Hid (Calls prog 108 (Jm (some ⟨b,0,none⟩) peer (Jt i xa xc ga gc pa pc)) w2.drew fun e w'=>(∃v,e = .returned (.tuple #[v,.int .i64 (X_ G2 peer i).2])∧Yx w' v (X_ G2 peer i).1.1)∧ZQ w' b (X_ G2 peer i).1.2∧Fr w2.drew.heap.size (· = b) w2.drew w'):=sS b G2 peer ⟨i,.slice xa i.blocks.length xc,.slice ga i.gone.length gc,.slice pa i.Xm.length pc⟩ w2.drew (cU.o.TJ.room.below (YE _ _).drew) hv1 hv2 HOKI.o (HIR2.o.below (YE _ _).drew);have HIO:=IX hv1 hv2 peer HOKI.o;obtain⟨-,-,D_,hy2,hy3⟩:=HIO;generalize X_ G2 peer i=Y at *;obtain⟨⟨Y1,Y2⟩,yu⟩:=Y;dsimp only at Lc CI D_ hy2 hy3;have Zv:Hid (∀w' R',DL w w' g b k ep (Qa kd peer src ly nm sa sl sc ba bl bc) (.slice (some ⟨g',off',none⟩) LV.length vc) LV (.slice ta G1.length tc) gu (.slice ta G1.length tc) G1 R'→w'.cell? ⟨g,0,none⟩=some (.pointer (some ⟨b,0,none⟩))∧w'.cell? ⟨w,1,none⟩=some (.int .i64 peer)):=fun w' R' h=>⟨h.TJ.cells.1,Zc h.op 1 rfl⟩
     have iz:=Zh (cU.o.below (YE _ _).drew);refine RX ?_;refine wp_region_held_drew (S:=(fun w'=>w'.cell? ⟨g,0,none⟩=some (.pointer (some ⟨b,0,none⟩))∧w'.cell? ⟨w,1,none⟩=some (.int .i64 peer))) X6 ?_ (fun XY=>?_)
     ·exact Zv.o _ _ iz.o
     refine YA 0 (h:=YA 1 (h:=YA 2 (h:=YA 3 (h:=YA 4 (h:=YA 5 (h:=?_))))));refine Rv 6 (h:=fun K hK=>?_);refine Ra Zr 173 (.tmp 14) Zr wr Zr 173 (Jt i xa xc ga gc pa pc) (0,0) _ Nv underlying173 rfl X6 ?_;refine hK.out _ _ ?_ (fun XC=>?_)
     ·first|exact Zv.o _ _ cV.o|exact Zv.o _ _ iz.o
     clear hK K;try simp only[pt]
     refine Rv 7 (h:=fun K hK=>?_);go_simp;refine CI.o.mono ?_;rintro e w4 ⟨⟨yv,rfl,Sz⟩,Xh,Wb⟩;obtain⟨ya,yc,hyv,-⟩:=id Sz;subst hyv;have cV:=Zh (iz.o.item Xh Wb);have Ew:=Zh Sz;clear Sz Xh Wb;go_wp2_with fail
     refine hK.out _ _ ?_ (fun Vq=>?_)
     ·first|exact Zv.o _ _ cV.o|exact Zv.o _ _ iz.o
     clear hK K;try simp only[pt]
     refine YA 8 (h:=YA 9 (h:=YA 10 (h:=YA 11 (h:=YA 12 (h:=?_)))));refine wpAnyH_done X6 ?_ _;refine QP ?_;clear XY XC Vq Zv CI cU iz Nv HIR2;go_upto_region 15 with fail
     have hw15:IntKind.i64.wrap (gu+yu)=gu+yu:=SZ _ Zo;have DF:=Zh (cV.o.below (YE _ _).drew);obtain⟨k20,k21,-,-⟩:=DF.o.facts;obtain⟨m20,m21,-,-⟩:=cV.o.facts;refine RX ?_;refine wp_region_held_drew (S:=(fun w'=>True)) X6 ?_ (fun XY=>?_)
     ·(try dsimp only)
      try trivial
     refine YA 0 (h:=YA 2 (h:=YA 4 (h:=YA 6 (h:=?_))));refine wpAnyH_ready (rs:=[1,5]) X6 Zi ?_;refine AllReadyH.cons (i:=1) rfl (fun K hK=>?_) ?_
     ·skip
      go_simp;refine hK.out _ _ ?_ (fun XC=>?_)
      ·(try dsimp only)
       try trivial
      clear hK K;try simp only[pt]
      refine wpAnyH_ready (rs:=[3,5]) X6 Zi ?_;refine AllReadyH.cons (i:=3) rfl (fun K hK=>?_) ?_
      ·skip
       have iV:=Zh (Ew.o.below (YE _ _).drew);refine Y9 Zr (.tmp 73) (.tmp 74) 98 Zr w Xt _ G1.length (G1.flatMap Z7) Zr DF.o.own _ Y1.length (Y1.flatMap Z7) Zr iV.o (Vo _) (XT _) Zo Zo ?_ ?_
       ·have:=DF.o.fr.size;omega
       intro v' w6 HO HG;have M7:Hid (w6.ownsRow w 158 5 v' (G1++Y1).length ((G1++Y1).flatMap Z7)):=dQ;obtain⟨na,nc,Na,-⟩:=Row.Z4 M7.o;subst Na;have wz:=Zh (DF.o.grown HG.o M7.o);obtain⟨d20,d21,f20,f21⟩:=wz.o.facts;refine hK.out _ _ ?_ (fun Vq=>?_)
       ·(try dsimp only)
        try trivial
       clear hK K;try simp only[pt]
       refine Rv 5 (h:=fun K hK=>?_);go_simp;refine hK.out _ _ ?_ (fun MB=>?_)
       ·(try dsimp only)
        try trivial
       clear hK K;try simp only[pt]
       refine YA 7 (h:=YA 8 (h:=?_));refine Rv 9 (h:=fun K hK=>?_);go_simp;have wC:=Zh (wz.o.set 20 (.slice na (G1++Y1).length nc) (.slice na (G1++Y1).length nc) gu rfl);obtain⟨h20,h21,g20,g21⟩:=wC.o.facts;refine hK.out _ _ ?_ (fun Fm=>?_)
       ·(try dsimp only)
        try trivial
       clear hK K;try simp only[pt]
       refine YA 10 (h:=?_);refine Rv 11 (h:=fun K hK=>?_);go_simp;have HDL8:=Zh (wC.o.set 21 (.int .i64 (gu+yu)) (.slice na (G1++Y1).length nc) (gu+yu) rfl);refine hK.out _ _ ?_ (fun Fp=>?_)
       ·(try dsimp only)
        try trivial
       exact Yx57
      refine AllReadyH.cons (i:=5) rfl (fun K hK=>?_) AllReadyH.nil;go_simp;refine hK.out _ _ ?_ (fun j6=>?_)
      ·(try dsimp only)
       try trivial
      clear hK K;try simp only[pt]
      refine YA 7 (h:=?_);refine Rv 3 (h:=fun K hK=>?_);have iV:=Zh (Ew.o.below (YE _ _).drew);refine Y9 Zr (.tmp 73) (.tmp 74) 98 Zr w Xt _ G1.length (G1.flatMap Z7) Zr DF.o.own _ Y1.length (Y1.flatMap Z7) Zr iV.o (Vo _) (XT _) Zo Zo ?_ ?_
      ·have:=DF.o.fr.size;omega
      intro v' w6 HO HG;have M7:Hid (w6.ownsRow w 158 5 v' (G1++Y1).length ((G1++Y1).flatMap Z7)):=dQ;obtain⟨na,nc,Na,-⟩:=Row.Z4 M7.o;subst Na;have wz:=Zh (DF.o.grown HG.o M7.o);obtain⟨d20,d21,f20,f21⟩:=wz.o.facts;refine hK.out _ _ ?_ (fun hHeld7=>?_)
      ·(try dsimp only)
       try trivial
      clear hK K;try simp only[pt]
      refine YA 8 (h:=?_);refine Rv 9 (h:=fun K hK=>?_);go_simp;have wC:=Zh (wz.o.set 20 (.slice na (G1++Y1).length nc) (.slice na (G1++Y1).length nc) gu rfl);obtain⟨h20,h21,g20,g21⟩:=wC.o.facts;refine hK.out _ _ ?_ (fun hHeld8=>?_)
      ·(try dsimp only)
       try trivial
      clear hK K;try simp only[pt]
      refine YA 10 (h:=?_);refine Rv 11 (h:=fun K hK=>?_);go_simp;have HDL8:=Zh (wC.o.set 21 (.int .i64 (gu+yu)) (.slice na (G1++Y1).length nc) (gu+yu) rfl);refine hK.out _ _ ?_ (fun hHeld9=>?_)
      ·(try dsimp only)
       try trivial
      exact Yx57
     refine AllReadyH.cons (i:=5) rfl (fun K hK=>?_) AllReadyH.nil;go_simp;refine hK.out _ _ ?_ (fun AH=>?_)
     ·(try dsimp only)
      try trivial
     clear hK K;try simp only[pt]
     refine YA 7 (h:=?_);refine Rv 1 (h:=fun K hK=>?_);go_simp;refine hK.out _ _ ?_ (fun AJ=>?_)
     ·(try dsimp only)
      try trivial
     clear hK K;try simp only[pt]
     refine Rv 3 (h:=fun K hK=>?_);have iV:=Zh (Ew.o.below (YE _ _).drew);refine Y9 Zr (.tmp 73) (.tmp 74) 98 Zr w Xt _ G1.length (G1.flatMap Z7) Zr DF.o.own _ Y1.length (Y1.flatMap Z7) Zr iV.o (Vo _) (XT _) Zo Zo ?_ ?_
     ·have:=DF.o.fr.size;omega
     intro v' w6 HO HG;have M7:Hid (w6.ownsRow w 158 5 v' (G1++Y1).length ((G1++Y1).flatMap Z7)):=dQ;obtain⟨na,nc,Na,-⟩:=Row.Z4 M7.o;subst Na;have wz:=Zh (DF.o.grown HG.o M7.o);obtain⟨d20,d21,f20,f21⟩:=wz.o.facts;refine hK.out _ _ ?_ (fun AK=>?_)
     ·(try dsimp only)
      try trivial
     clear hK K;try simp only[pt]
     refine YA 8 (h:=?_);refine Rv 9 (h:=fun K hK=>?_);go_simp;have wC:=Zh (wz.o.set 20 (.slice na (G1++Y1).length nc) (.slice na (G1++Y1).length nc) gu rfl);obtain⟨h20,h21,g20,g21⟩:=wC.o.facts;refine hK.out _ _ ?_ (fun AO=>?_)
     ·(try dsimp only)
      try trivial
     clear hK K;try simp only[pt]
     refine YA 10 (h:=?_);refine Rv 11 (h:=fun K hK=>?_);go_simp;have HDL8:=Zh (wC.o.set 21 (.int .i64 (gu+yu)) (.slice na (G1++Y1).length nc) (gu+yu) rfl);refine hK.out _ _ ?_ (fun rK=>?_)
     ·(try dsimp only)
      try trivial
     exact Yx57
    ·have K6:j=LV.length:=by omega
     have hT:IL.take j=IL:=by rw[K6,iH.o];exact Ex (by rw[Te];exact Zq _)
     rw[hT]at qY;obtain⟨ta,tc,lh,-⟩:=Row.Z4 qY.o.own;subst lh;clear rQ aA hT;generalize Zw peer IL R=G at *;obtain⟨⟨G1,G2⟩,gu⟩:=G;dsimp only at HX qY;have hk:=qY.o.Y8;unfold Bp at hk;have CC:=Zh (Hr g (.pointer (some ⟨b,0,none⟩)) ep (Qm 0 0 0 0 false 0 0 0 0 none 0 0 false 0 none 0 0 none 0 0 0 0 false false 0 va LV.length vc ta G1.length tc gu) wr qY.o.TJ.Y8 h0 h9 rfl X6);have HTK2:Hid (X8 wr ((((Qm 0 0 0 0 false 0 0 0 0 none 0 0 false 0 none 0 0 none 0 0 0 0 false false 0 va LV.length vc ta G1.length tc gu):List Value).set 0 (.int .i64 2)).set 2 (.int .i64 (ep+1))) (Uc (ep+1) IL G1 gu)):=⟨_,_,_,_,_,rfl,Vp.nil _,⟨LV,iH.o,qY.o.its⟩,Row.Z4 qY.o.own⟩;have aj:=Zh qY.o.TJ.apart;have hzr:=qY.o.z;generalize Rt:((((Qm 0 0 0 0 false 0 0 0 0 none 0 0 false 0 none 0 0 none 0 0 0 0 false false 0 va LV.length vc ta G1.length tc gu):List Value).set 0 (.int .i64 2)).set 2 (.int .i64 (ep+1)))=cs at *;clear Rt
     go_wp2_with (first|with_reducible refine Zl hk underlying100 ?_|(go_at_call 79;refine CC.o.mono ?_;rintro e w5 ⟨rfl,hg5,pD⟩;have Gv:=Zh pD;have JK:=(pD.block (w.heap.size+1) (ZY hzr) Zo).trans hzr;have JO:Hid (X8 w5 cs (Uc (ep+1) IL G1 gu)):=HTK2.o.fr pD (fun k hk=>aj.o k (WG hk));have HD5:Hid (X5 w5 g b G2 (ep+1)):=⟨hg5,qY.o.TJ.room.fr pD (Zq _) (fun h=>tW (Eq.symm h)) (fun k c fr hk=>aj.o.ne Zi k c fr (WG hk))⟩;have hi:=Px JO.o;have hold:=Pw JO.o;have Oz:=JO.o.one;clear hg5 pD CC)|(with_reducible refine ZT 100 (.tmp 4) (.tmp 85) rfl ?_;refine VM rfl 100 (.tmp 4) (.tmp 85) rfl rfl (w.heap.size+1) cs.toArray rfl rfl 100 W_ JK hi hold Oz ?_))
     refine Vr (v:= .agg cs.toArray) ?_ rfl ?_
     ·exact jz
     rw[HX.o];refine⟨⟨cs,rfl,JO.o.setRow JK _⟩,HD5.o.setRow JK Zo Zo _,?_⟩;exact Lj (qY.o.fr.trans (Gv.o.mono qY.o.fr.size (fun _ _ h=>WG h))) (JV _) _
  ·exact Yx38
 ·exact Yx34
def Ar(g b:Nat)(R:Room)(ep kd peer src ly:Int)(nm:ByteArray)(sa ba:Option Addr)(sl sc bl bc:Nat)(l:List UInt8)(w:World)(hD:X5 w g b R ep)(hI:Inv R)(hS:Wc R)(h0:0≤ep)(h9:ep<1000000000)(hv:XU w (.slice ba bl bc) l) :
  Calls prog 76 (Qi (some ⟨g,0,none⟩) (Qa kd peer src ly nm sa sl sc ba bl bc)) w fun e w'=>(∃cs:List Value,e = .returned (.agg cs.toArray)∧X8 w' cs (YD R ep peer l).1.1)∧X5 w' g b (YD R ep peer l).1.2 (YD R ep peer l).2∧Fr w (fun k=>k=b∨k=g) w w':=by
 by_cases h3:192≤at8 l 1∧at8 l 1≤223
 ·exact DW g b R ep kd peer src ly nm sa ba sl sc bl bc l w hD hI hS h0 h9 hv h3
 ·exact E6 g b R ep kd peer src ly nm sa ba sl sc bl bc l w hD hI hS.short hv h3
def VF(a:Et):List Value:=(Jv a)
def Z5(x:Zt):List Value:=(Qb x.peer x.source x.Mx x.fin)
structure Tt where
 p:JR
 d:Eu
 cv:Value
 ev:Value
 pv:Value
def Xg(x:Tt):List Value:=VT x.p x.d x.cv x.ev x.pv
def NB:Elem prog 37 35 4 32:=⟨underlying37,⟨.agg (Qb 0 0 0 0),by kernel_rfl,rfl⟩,by decide⟩
def Mz:Elem prog 39 59 4 32:=⟨underlying39,⟨.agg (Qb 0 0 0 0),by kernel_rfl,rfl⟩,by decide⟩
def J5:Elem prog 114 97 15 136:=⟨underlying114,⟨.agg Tu,by kernel_rfl,rfl⟩,by decide⟩
def V7{w:World}{base:Nat}{e:TypeId}{size:Nat}{v:Value}{n:Nat}{xs:List Value}(h:w.ownsRow base e size v n xs):∀k,v.ownBlock=some k→∃cur,w.heap[k]?=some (.cells cur e (0,0)):=by
 intro k hk;obtain⟨_,h⟩:=h;rcases h with⟨rfl,_⟩|⟨g,cap,cur,rfl,hg,hh,_⟩
 ·cases hk
 ·have hk:some g=some k:=hk;cases hk;exact⟨cur,hh⟩
def U8{w w':World}{b1 b2:Nat}{e1 e2:TypeId}{s1 s2:Nat}{v1 v2:Value}{n1 n2:Nat}{x1 x2:List Value}(h1:w.ownsRow b1 e1 s1 v1 n1 x1)(h2:w.ownsRow b2 e2 s2 v2 n2 x2)(he:e1≠e2)(hg:w.grownBy w' v2.ownBlock):w'.ownsRow b1 e1 s1 v1 n1 x1:=
 XO h1 fun k hk=>by
  obtain⟨cur,hc⟩:=V7 h1 k hk;exact hg.block k (ZY hc) (fun e=>Y0 h2 he _ _ _ e.symm hc)
structure Ws(B:Nat)(w:World)(k:Nat)(cs:Array Value)(av:Value)(A:List Et)(mv:Value)(M:List Tt)(lv:Value)(LS:List Zt):Prop where
 Y8:w.heap[k]?=some (.cells cs 116 (0,0))
 XR:w.ownsRow B 35 4 av A.length (A.flatMap VF)
 Kp:w.ownsRow B 97 15 mv M.length (M.flatMap Xg)
 each:∀x∈M,Vp w x.p x.cv x.ev x.pv
 P6:w.ownsRow B 59 4 lv LS.length (LS.flatMap Z5)
section
variable {B:Nat} {w w':World} {k:Nat} {cs:Array Value} {av:Value} {A:List Et} {mv:Value} {M:List Tt} {lv:Value} {LS:List Zt}
def Ws.below(h:Ws B w k cs av A mv M lv LS)(hb:Below w w w'):Ws B w' k cs av A mv M lv LS:=
 ⟨(hb.block _ (ZY h.Y8)).trans h.Y8,Yq h.XR hb,Yq h.Kp hb,fun x hx=>(h.each x hx).below hb,Yq h.P6 hb⟩
def Vp.vT{p:JR}{cv ev pv:Value}{S:Nat→Prop}(h:Vp w p cv ev pv)(hf:Fr w S w w')(h1:∀k c fr,S k→w.heap[k]?≠some (.cells c 66 fr))(h2:∀k c fr,S k→w.heap[k]?≠some (.cells c 5 fr)):Vp w' p cv ev pv:=
 ⟨Row.fr h.c hf (Zq _) h1,Row.fr h.e hf (Zq _) h2,Row.fr h.p hf (Zq _) h2⟩
def Ws.frA(h:Ws B w k cs av A mv M lv LS){S:Nat→Prop}(hf:Fr w S w w')(hS:∀j,S j→∃c t f,w.heap[j]?=some (.cells c t f)∧t≠116∧t≠35∧t≠97∧t≠59∧t≠66∧t≠5):Ws B w' k cs av A mv M lv LS:=by
 have hn:∀ {j c e f},w.heap[j]?=some (.cells c e f)→(e=116∨e=35∨e=97∨e=59∨e=66∨e=5)→¬S j:=fun{j c e f} hj he hs=>by
  obtain⟨c',t,f',h1,q1,q2,q3,q4,q5,q6⟩:=hS j hs;rw[hj]at h1;injection h1 with h1
  injection h1 with _ h1
  subst h1;rcases he with r|r|r|r|r|r
  ·exact q1 r
  ·exact q2 r
  ·exact q3 r
  ·exact q4 r
  ·exact q5 r
  ·exact q6 r
 refine⟨(hf.block _ (ZY h.Y8) (hn h.Y8 Zi)).trans h.Y8,XO h.XR fun j hj=>?_,XO h.Kp fun j hj=>?_,fun x hx=>(h.each x hx).vT hf (fun j c f hs hj=>hn hj Zi hs) (fun j c f hs hj=>hn hj Zi hs),XO h.P6 fun j hj=>?_⟩
 ·obtain⟨cur,hc⟩:=V7 h.XR j hj;exact hf.block _ (ZY hc) (hn hc Zi)
 ·obtain⟨cur,hc⟩:=V7 h.Kp j hj;exact hf.block _ (ZY hc) (hn hc Zi)
 ·obtain⟨cur,hc⟩:=V7 h.P6 j hj;exact hf.block _ (ZY hc) (hn hc Zi)
def Ws.F_(h:Ws B w k cs av A mv M lv LS)(o:Nat)(u:Value):Ws B (w.setCell ⟨k,o,none⟩ u) k (cs.setIfInBounds o u) av A mv M lv LS:=by
 have hf:Fr w (· = k) w (w.setCell ⟨k,o,none⟩ u):=(Fr.refl _ _ _).setAt _ _
 have WA:∀e,116≠e→∀j c fr,j=k→w.heap[j]?≠some (.cells c e fr):=by
  intro e he j c fr hj hc;rw[hj,h.Y8]at hc;injection hc with hc
  injection hc with _ hc
  exact he hc
 have hb:∀ {v e s n xs},w.ownsRow B e s v n xs→116≠e→∀j,v.ownBlock=some j→(w.setCell ⟨k,o,none⟩ u).heap[j]?=w.heap[j]?:=fun{v e s n xs} ho he j hj=>by
  obtain⟨cur,hc⟩:=V7 ho j hj;exact L8 w ⟨k,o,none⟩ _ j (fun e2=>WA e he j _ _ e2 hc)
 exact⟨Vu h.Y8 o u,XO h.XR (hb h.XR Zd),XO h.Kp (hb h.Kp Zd),fun x hx=>(h.each x hx).vT hf (WA _ Zd) (WA _ Zd),XO h.P6 (hb h.P6 Zd)⟩
def Ws.xO(h:Ws B w k cs av A mv M lv LS)(hg:w.grownBy w' lv.ownBlock){A5:Value}{sW:List Zt}(ho:w'.ownsRow B 59 4 A5 sW.length (sW.flatMap Z5)):Ws B w' k cs av A mv M A5 sW:=
 ⟨(hg.block _ (ZY h.Y8) (fun e=>Y0 h.P6 Zd _ _ _ e.symm h.Y8)).trans h.Y8,U8 h.XR h.P6 Zd hg,U8 h.Kp h.P6 Zd hg,fun x hx=>(h.each x hx).vT (XN hg) (Y0 h.P6 Zd) (Y0 h.P6 Zd),ho⟩
def Ws.B_(h:Ws B w k cs av A mv M lv LS)(hg:w.grownBy w' av.ownBlock){av':Value}{A':List Et}(ho:w'.ownsRow B 35 4 av' A'.length (A'.flatMap VF)):Ws B w' k cs av' A' mv M lv LS:=
 ⟨(hg.block _ (ZY h.Y8) (fun e=>Y0 h.XR Zd _ _ _ e.symm h.Y8)).trans h.Y8,ho,U8 h.Kp h.XR Zd hg,fun x hx=>(h.each x hx).vT (XN hg) (Y0 h.XR Zd) (Y0 h.XR Zd),U8 h.P6 h.XR Zd hg⟩
def Ws.bJ(h:Ws B w k cs av A mv M lv LS)(hg:w.grownBy w' mv.ownBlock){mv':Value}{M':List Tt}(ho:w'.ownsRow B 97 15 mv' M'.length (M'.flatMap Xg))(he:∀x∈M',Vp w' x.p x.cv x.ev x.pv):Ws B w' k cs av A mv' M' lv LS:=
 ⟨(hg.block _ (ZY h.Y8) (fun e=>Y0 h.Kp Zd _ _ _ e.symm h.Y8)).trans h.Y8,U8 h.XR h.Kp Zd hg,ho,he,U8 h.P6 h.Kp Zd hg⟩
def FK(at':Int):∀(Q:List Zt) (m:Nat) (_:m<Q.length),(Q.flatMap Z5).set (m*4+3) (.int .i64 at')=(Q.set m {Q.getD m We with fin:=at'}).flatMap Z5
 | [],m,hm=>by simp at hm
 | x :: Q,0,_=>by simp[Z5]
 | x :: Q,m+1,hm=>by
  have ih:=FK at' Q m (by simpa using hm);rw[List.flatMap_cons,List.set_append_right _ _ (by show 4≤_;omega),List.set_cons_succ,List.flatMap_cons];have:(m+1)*4+3-(Z5 x).length=m*4+3:=by show _-4=_;omega
  rw[this,ih];rfl
def Ws.setL(h:Ws B w k cs av A mv M lv LS){g c m:Nat}(hv:lv = .slice (some ⟨g,0,none⟩) LS.length c)(hm:m<LS.length)(at':Int):Ws B (w.setCell ⟨g,m*4+3,none⟩ (.int .i64 at')) k cs av A mv M lv (LS.set m {LS.getD m We with fin:=at'}):=by
 have hl:=h.P6;obtain⟨cur,hc⟩:=V7 hl g (by rw[hv];rfl);have hf:Fr w (· = g) w (w.setCell ⟨g,m*4+3,none⟩ (.int .i64 at')):=(Fr.refl _ _ _).setAt _ _
 have WA:∀e,59≠e→∀j c fr,j=g→w.heap[j]?≠some (.cells c e fr):=by
  intro e he j c fr hj hx;rw[hj,hc]at hx;injection hx with hx
  injection hx with _ hx
  exact he hx
 have hb:∀ {v e s n xs},w.ownsRow B e s v n xs→59≠e→∀j,v.ownBlock=some j→(w.setCell ⟨g,m*4+3,none⟩ (.int .i64 at')).heap[j]?=w.heap[j]?:=fun{v e s n xs} ho he j hj=>by
  obtain⟨cu,O8⟩:=V7 ho j hj;exact L8 w ⟨g,m*4+3,none⟩ _ j (fun e2=>WA e he j _ _ e2 O8)
 refine⟨(L8 w ⟨g,m*4+3,none⟩ _ k (fun e2=>WA _ Zd k _ _ e2 h.Y8)).trans h.Y8,XO h.XR (hb h.XR Zd),XO h.Kp (hb h.Kp Zd),fun x hx=>(h.each x hx).vT hf (WA _ Zd) (WA _ Zd),?_⟩;rw[hv]at hl ⊢;have h2:=OI hl Zo (m*4+3) (.int .i64 at');rw[FK at' LS m hm]at h2;rw[List.length_set];exact h2
def Ws.cells{oa:Option Addr}{n oc:Nat}{c1 c2 c3:Value}(h:Ws B w k (Jg oa n oc c1 c2 c3) av A mv M lv LS):w.cell? ⟨k,0,none⟩=some (.slice oa n oc)∧w.cell? ⟨k,1,none⟩=some c1∧w.cell? ⟨k,2,none⟩=some c2∧w.cell? ⟨k,3,none⟩=some c3∧(∀j,w.frozen? ⟨k,j,none⟩=false):=
 ⟨cell_of h.Y8 0,cell_of h.Y8 1,cell_of h.Y8 2,cell_of h.Y8 3,ZP h.Y8⟩
end
def rX{w:World}{g n c:Nat}{l:List Zt}{B:Nat}(h:w.ownsRow B 59 4 (.slice (some ⟨g,0,none⟩) n c) n (l.flatMap Z5)){m:Nat}(hm:m<l.length):w.cell? ⟨g,m*4,none⟩=some (.int .i64 (l.getD m We).peer)∧w.cell? ⟨g,m*4+1,none⟩=some (.int .i64 (l.getD m We).source)∧w.cell? ⟨g,m*4+3,none⟩=some (.int .i64 (l.getD m We).fin):=by
 have vU:=XH Z5 4 (fun _=>rfl) l;obtain⟨g',off,cap,h1,h2,h3,h4,h5⟩:=Row.open (Row.Z4 h) (by rw[vU];omega);injection h1 with e1 _ _
 cases e1;have hx:l[m]?=some (l.getD m We):=by rw[QQ,U' hm];rfl
 have hj:∀j,j<4→w.cell? ⟨g,m*4+j,none⟩=(Z5 (l.getD m We))[j]?:=fun j hj=>by
  have h6:=h5 (m*4+j) (by rw[vU];omega);rw[PA]at h6;rw[h6];exact Mg Z5 4 (fun _=>rfl) l m j _ hx hj
 exact⟨hj 0 Zo,hj 1 Zo,hj 3 Zo⟩
def FJ(x:Zt):∀u∈Z5 x,u.oneCell'=true:=by
 intro u hu;simp only[Z5,K5,List.mem_nil_iff,or_false]at hu;rcases hu with rfl|rfl|rfl|rfl <;> rfl
def nK(B k:Nat)(oa:Option Addr)(n oc:Nat)(av mv:Value)(A:List Et)(M:List Tt)(lv:Value)(LS:List Zt)(at':Int)(t:Yz)(w:World)
  (h:Ws B w k (Jg oa n oc av mv lv) av A mv M lv LS) (hB:B≤w.heap.size) (hl:LS.length≤100000000) :
  Calls prog 85 (Jm (some ⟨k,0,none⟩) at' (Jz t)) w fun e w'=>e = .returned (.tuple #[]) ∧
   ∃A5,Ws B w' k (Jg oa n oc av mv A5) av A mv M A5 (Ym n at' LS t)∧Fr w (fun j=>j=k∨lv.ownBlock=some j) w w':=by
 have HX:Hid (Ym n at' LS t=if t.kind=1 then LS++[⟨t.peer,t.source,at',n⟩]else if t.kind=2 then X7 t.peer t.source at' LS LS.length else LS):=rfl;have VA:Hid (Below w w (w.alloc (.cells (Jz t) 158))):=Z' w _;have hz:=Z9 w (.cells (Jz t) 158);have H1:=Zh (h.below VA.o);obtain⟨la,lc,ub,-⟩:=Row.Z4 h.P6;have HL:=Zh h.P6;subst ub;clear h;by_cases k1:t.kind=1
 ·have Vc:Hid (Ym n at' LS t=LS++[⟨t.peer,t.source,at',n⟩]):=by show _=_;rw[HX.o,ZU k1]
  clear HX;generalize Ym n at' LS t=X at *;obtain⟨tk,tp,ts,ty,tx⟩:=t;dsimp only at k1 VA hz H1 Vc ⊢;subst k1;go_enter func85,ntmps85;go_upto_region 3 with fail
  have PF:=hz;have hls:=ZY hz;generalize(w.alloc (.cells (Qh 1 tp ts ty tx) 158))=w1 at *;have H1d:=Zh (H1.o.below (YE _ _).drew);have hzd:=((YE w1 w1).drew.block _ hls).trans hz
  have Zv:Hid (∀w':World,w'.heap[k]?=some (.cells #[.slice oa n oc,av,mv,.slice la LS.length lc] 116 (0,0))→w'.heap[w.heap.size]?=some (.cells (Qh 1 tp ts ty tx) 158 (0,0))→w'.cell? ⟨k,0,none⟩=some (.slice oa n oc)∧w'.cell? ⟨k,3,none⟩=some (.slice la LS.length lc)∧w'.cell? ⟨w,1,none⟩=some (.int .i64 tp)∧w'.cell? ⟨w,2,none⟩=some (.int .i64 ts)):=fun w' h1 h2=>
   ⟨Zc h1 0 rfl,Zc h1 3 rfl,Zc h2 1 rfl,Zc h2 2 rfl⟩
  refine RX ?_;refine Zj (d:=20) (S:=(fun w'=>w'.cell? ⟨k,0,none⟩=some (.slice oa n oc)∧w'.cell? ⟨k,3,none⟩=some (.slice la LS.length lc)∧w'.cell? ⟨w,1,none⟩=some (.int .i64 tp)∧w'.cell? ⟨w,2,none⟩=some (.int .i64 ts))) X6 ?_ (fun _=>?_)
  ·exact Zv.o _ H1d.o.Y8 hzd
  refine YK 0 (h:=YK 1 (h:=YK 2 (h:=YK 3 (h:=YK 4 (h:=YK 5 (h:=YK 6 (h:=YK 7 (h:=YK 8 (h:=YK 9 (h:=YK 10 (h:=YK 11 (h:=YK 12 (h:=YK 13 (h:=YK 14 (h:=YK 15 (h:=?_))))))))))))))));refine YR 16 (h:=fun K hK=>?_);refine W9 Zr Mz (.tmp 27) Zr (Qb tp ts at' (n:Int)) Zr Zr Zd ?_;have H2:=Zh (H1d.o.below (Z' w1.drew (.cells (Qb tp ts at' (n:Int)) 59)));have TF:=((Z' w1.drew (.cells (Qb tp ts at' (n:Int)) 59)).block _ (ZY hzd)).trans hzd;refine YY hK _ _ ?_ (fun _=>?_)
  ·exact ju
  clear hK K;try simp only[pt]
  refine YR 17 (h:=fun K hK=>?_);refine Y9 Zr (.tmp 16) (.tmp 28) 39 Zr B Mz (.slice la LS.length lc) LS.length (LS.flatMap Z5) Zr H2.o.P6 (.slice (some ⟨w1.drew.heap.size,0,none⟩) 1 1) 1 ([(⟨tp,ts,at',(n:Int)⟩:Zt)].flatMap Z5) Zr (Yn _ _ 1 _ ([(⟨tp,ts,at',(n:Int)⟩:Zt)].flatMap Z5) Zd rfl) rfl (UT fun x _=>FJ x) Zo Zo ?_ ?_
  ·show B≤(w1.drew.heap.push _).size;rw[N9];have:=VA.o.size;show B≤w1.heap.size+1;omega
  intro v' w6 HO HG;have M7:Hid (w6.ownsRow B 59 4 v' (LS++[(⟨tp,ts,at',(n:Int)⟩:Zt)]).length ((LS++[(⟨tp,ts,at',(n:Int)⟩:Zt)]).flatMap Z5)):=dQ;obtain⟨na,nc,Na,-⟩:=Row.Z4 M7.o;subst Na;have H3:=Zh (H2.o.xO HG.o M7.o);obtain⟨q0,q1,q2,q3,q4⟩:=H3.o.cells;have q43:=q4 3;have lF:=(HG.o.block _ (ZY TF) (fun e=>Y0 H2.o.P6 Zd _ _ _ e.symm TF)).trans TF;refine YY hK _ _ ?_ (fun _=>?_)
  ·exact ju
  clear hK K;try simp only[pt]
  refine YR 18 (h:=fun K hK=>?_);go_simp;refine YY hK _ _ ?_ (fun _=>?_)
  ·exact ju
  clear hK K;try simp only[pt]
  refine YK 19 (h:=?_);refine YR 20 (h:=fun K hK=>?_);go_simp;refine Ye hK _ _ X6 ?_;clear hK K;try simp only[pt]
  refine Yt X6 ?_ _;refine QP ?_;go_wp2_with fail
  first|refine bodyPost_end (results_none Zr _ _ _) rfl ?_|refine Vr (results_none Zr _ _ _) rfl ?_
  have nC:(LS++[(⟨tp,ts,at',(n:Int)⟩:Zt)]).length=LS.length+1:=by simp
  have h3:=H3.o.F_ 3 (.slice na (LS.length+1) nc);rw[nC]at h3;refine⟨rfl,.slice na (LS.length+1) nc,by rw[Vc.o];exact h3,?_⟩;have f1:Fr w (fun j=>j=k∨(Value.slice la LS.length lc).ownBlock=some j) w w1.drew:=Fr.Z8 _ VA.o.drew;have f2:=(f1.alloc VA.o.size (.cells (Qb tp ts at' (n:Int)) 59));have f3:Fr w (fun j=>j=k∨(Value.slice la LS.length lc).ownBlock=some j) w w6:=f2.trans ((XN HG.o).mono f2.size (fun _ _ h=>WG h));exact f3.setCell (p:=⟨k,3,none⟩) (WG (WQ rfl)) _
 by_cases k2:t.kind=2
 rotate_left
 ·have Vc:Hid (Ym n at' LS t=LS):=by show _=_;rw[HX.o,Z3 k1,Z3 k2]
  clear HX;generalize Ym n at' LS t=X at *;have e1:(t.kind==1)=false:=by rw[Wz];exact k1
  have e2:(t.kind==2)=false:=by rw[Wz];exact k2
  go_enter func85,ntmps85;go_wp2_with fail
  first|refine bodyPost_end (results_none Zr _ _ _) rfl ?_|refine Vr (results_none Zr _ _ _) rfl ?_
  exact⟨rfl,_,by rw[Vc.o];exact H1.o,Fr.Z8 _ VA.o⟩
 have Vc:Hid (Ym n at' LS t=X7 t.peer t.source at' LS LS.length):=by show _=_;rw[HX.o,Z3 k1,ZU k2]
 clear HX;generalize Ym n at' LS t=X at *;obtain⟨tk,tp,ts,ty,tx⟩:=t;dsimp only at k1 k2 VA hz H1 Vc ⊢;subst k2;clear k1;have Tx:=H1.o.cells;obtain⟨q0,q1,q2,q3,q4⟩:=Tx;have hw5:IntKind.i64.wrap ((LS.length:Int)-1)=(LS.length:Int)-1:=SZ _ Zo;go_enter func85,ntmps85;go_wp2_with fail
 go_loopw [6] (fun s6 w'=>∃m:Nat,m≤LS.length∧s6 = .int .i64 ((m:Int)-1)∧Hid (X7 tp ts at' LS LS.length=X7 tp ts at' LS m)∧Below w w w'∧Below (w.alloc (.cells (Qh 2 tp ts ty tx) 158)).heap.size (w.alloc (.cells (Qh 2 tp ts ty tx) 158)) w') (fun s6 _=>(intOf s6+1).toNat)
 case atStart=>exact⟨LS.length,Zq _,rfl,rfl,VA.o,YE _ _⟩
 case round=>
  obtain⟨m,hm,rfl,HE,Xp,rN⟩:=hrel;have R7:=Zh Xp;have HBEL2:=Zh rN;have HR:=Zh (H1.o.below rN);have hzr:=(rN.block _ (ZY hz)).trans hz;have t1:wr.cell? ⟨w,1,none⟩=some (.int .i64 tp):=Zc hzr 1 rfl;have t2:wr.cell? ⟨w,2,none⟩=some (.int .i64 ts):=Zc hzr 2 rfl;obtain⟨r0,r1,r2,r3,r4⟩:=HR.o.cells;have q9:=Zh (Yq HL.o (R7.o));clear Xp rN q0 q1 q2 q3 q4;cases m with
  | zero=>
   have Mb:Hid (X=LS):=by show _=_;rw[Vc.o,HE.o];rfl
   clear HE Vc;go_wp2;first|refine bodyPost_end (results_none Zr _ _ _) rfl ?_|refine Vr (results_none Zr _ _ _) rfl ?_
   exact⟨rfl,_,by rw[Mb.o];exact HR.o,Fr.Z8 _ R7.o⟩
  | succ q=>
   have hq1:((q+1:Nat):Int)-1=(q:Int):=by omega
   rw[hq1];have hqI:(q:Int)<(LS.length:Int):=by omega
   obtain⟨g,c9,cur,e9,-,Hz⟩:=LC q9.o Zo;cases e9;obtain⟨y0,y1,y3⟩:=rX q9.o (m:=q) Zo;have fz:wr.frozen? ⟨g,q*4+3,none⟩=false:=ZP Hz _;have HQ:=Zh (fun(w':World) (hb:Below wr wr w')=>(HR.o.below hb).setL rfl (m:=q) Zo at');have DG:Hid (X7 tp ts at' LS (q+1)=if(LS.getD q We).peer=tp∧(LS.getD q We).source=ts then LS.set q {LS.getD q We with fin:=at'}else X7 tp ts at' LS q):=rfl;have hqw:IntKind.i64.wrap ((q:Int)-1)=(q:Int)-1:=SZ _ Zo;generalize(LS.getD q We).peer=lp at *;generalize(LS.getD q We).source=ls at *;by_cases hp:lp=tp
   ·by_cases hs:ls=ts
    ·have Mb:Hid (X=LS.set q {LS.getD q We with fin:=at'}):=by show _=_;rw[Vc.o,HE.o,DG.o,ZU ⟨hp,hs⟩]
     subst hp;subst hs;clear HE DG Vc;go_upto_region 9 with fail
     go_quiet (fail)
     go_wp2;first|refine bodyPost_end (results_none Zr _ _ _) rfl ?_|refine Vr (results_none Zr _ _ _) rfl ?_
     exact⟨rfl,⟨_,by rw[Mb.o];exact HQ.o _ (below_drewN (YE _ _) _)⟩,(Fr.Z8 _ (below_drewN R7.o _)).setCell (p:=⟨g,q*4+3,none⟩) (WG (WG rfl)) _⟩
    ·have HE3:Hid (X7 tp ts at' LS LS.length=X7 tp ts at' LS q):=by show _=_;rw[HE.o,DG.o,Z3 (fun h=>hs h.2)]
     have e1:(ls==ts)=false:=by rw[Wz];exact hs
     subst hp;exact bp
   ·have HE3:Hid (X7 tp ts at' LS LS.length=X7 tp ts at' LS q):=by show _=_;rw[HE.o,DG.o,Z3 (fun h=>hp h.1)]
    have e1:(lp==tp)=false:=by rw[Wz];exact hp
    exact bp
def WJ(b:List UInt8):Nat:=if at8 b 0/16%2=1 then 12+4*(at8 b 0%16)+4+4*get b (((12+4*(at8 b 0%16):Nat):Int)+2) 2 else 12+4*(at8 b 0%16)
def TR(b:List UInt8):Nat:=if at8 b 0/16%2=1 then 12+4*(at8 b 0%16)+4 else 12+4*(at8 b 0%16)
def SN(b:List UInt8):Nat:=if at8 b 0/32%2=1 then at8 b (b.length-1)else 0
def Be(b:List UInt8):JR×Int:=
  if 512<b.length then(WT,5)
  else if b.length<12 then(WT,2)
  else if at8 b 0<128∨191<at8 b 0 then(WT,1)
  else if 192≤at8 b 1∧at8 b 1≤223 then(WT,4)
  else if b.length<12+4*(at8 b 0%16)then(WT,2)
  else if at8 b 0/16%2=1∧b.length<12+4*(at8 b 0%16)+4 then(WT,2)
  else if b.length<WJ b then(WT,2)
  else if at8 b 0/32%2=1∧(WJ b=b.length∨at8 b (b.length-1)=0∨b.length-WJ b<at8 b (b.length-1))then(WT,1)
  else if at8 b 0/32%2=1∧¬(((b.drop (b.length-at8 b (b.length-1))).take (at8 b (b.length-1)-1)).all (fun x=>decide (x=0))=true)then(WT,1)
  else(Ti b (TR b,WJ b,b.length-SN b),0)
def jK(b:List UInt8)(k i:Nat):at8 (b.drop k) i=at8 b (k+i):=by
  unfold at8;rw[QQ,QQ,List.getElem?_drop]
def uW(b:List UInt8):YH b=Be b:=by
  unfold YH Be
  have e0:looks b=if 512<b.length then((0,0,0),5)
    else if b.length<12 then((0,0,0),2)
    else if at8 b 0/64≠2 then((0,0,0),1)
    else if 192≤at8 b 1∧at8 b 1≤223 then((0,0,0),4)
    else if(Vf b (12+4*(at8 b 0%16))).2=false then((0,0,0),2)
    else if(Rp b (b.drop (Vf b (12+4*(at8 b 0%16))).1.2)).2=false then((0,0,0),1)else(((Vf b (12+4*(at8 b 0%16))).1.1,(Vf b (12+4*(at8 b 0%16))).1.2,b.length-(Rp b (b.drop (Vf b (12+4*(at8 b 0%16))).1.2)).1),0):=rfl
  rw[e0];by_cases h1:512<b.length
  · simp only[ZU h1];rfl
  simp only[Z3 h1];by_cases h2:b.length<12
  · simp only[ZU h2];rfl
  simp only[Z3 h2];have hb:=(show at8 b 0<256 by unfold at8;exact(b.getD 0 0).toNat_lt);by_cases h3:at8 b 0<128∨191<at8 b 0
  · simp only[ZU h3,ZU (show at8 b 0/64≠2 by omega)];rfl
  simp only[Z3 h3,Z3 (show¬at8 b 0/64≠2 by omega)];by_cases h4:192≤at8 b 1∧at8 b 1≤223
  · simp only[ZU h4];rfl
  simp only[Z3 h4];obtain⟨p,hp⟩:∃p,p=12+4*(at8 b 0%16):=⟨_,rfl⟩
  have hx:(Vf b p).1=(TR b,WJ b)∧((Vf b p).2=decide (¬(b.length<p)∧¬(at8 b 0/16%2=1∧b.length<p+4)∧¬b.length<WJ b)):=by
    unfold Vf TR WJ;rw[←hp];by_cases h5:at8 b 0/16%2=1
    · rw[Z3 (show¬at8 b 0/16%2=0 by omega)];simp only[ZU h5];refine⟨by first|rfl|simp,?_⟩;rw[Bool.eq_iff_iff,UN,within_iff,Su,Su];omega
    · rw[ZU (show at8 b 0/16%2=0 by omega)];simp only[Z3 h5];refine⟨by first|rfl|simp,?_⟩;rw[Bool.eq_iff_iff,Su,Su];omega
  rw[←hp,hx.1,hx.2];have hpe:p≤WJ b:=by unfold WJ;rw[←hp];split <;> omega
  by_cases h5:¬(b.length<p)∧¬(at8 b 0/16%2=1∧b.length<p+4)∧¬b.length<WJ b
  · rw[WV h5];simp only[Bool.true_eq_false,if_false,Z3 h5.1,Z3 h5.2.1,Z3 h5.2.2];have hq:(b.drop (WJ b)).length=b.length-WJ b:=QG;by_cases h6:at8 b 0/32%2=1
    · simp only[h6,true_and];unfold Rp SN;rw[Z3 (show¬at8 b 0/32%2=0 by omega),hq,ZU h6];by_cases h7:b.length-WJ b=0
      · simp only[ZU h7,ZU (show WJ b=b.length∨at8 b (b.length-1)=0∨b.length-WJ b<at8 b (b.length-1)from WQ Zo)];rfl
      simp only[Z3 h7,jK,List.drop_drop];rw[show WJ b+(b.length-WJ b-1)=b.length-1 by omega];by_cases h8:at8 b (b.length-1)=0∨b.length-WJ b<at8 b (b.length-1)
      · simp only[ZU h8,ZU (show WJ b=b.length∨at8 b (b.length-1)=0∨b.length-WJ b<at8 b (b.length-1)from WG h8)];rfl
      rw[Z3 h8,Z3 (show¬(WJ b=b.length∨at8 b (b.length-1)=0∨b.length-WJ b<at8 b (b.length-1)) by omega),show WJ b+(b.length-WJ b-at8 b (b.length-1))=b.length-at8 b (b.length-1) by omega];by_cases h9:((b.drop (b.length-at8 b (b.length-1))).take (at8 b (b.length-1)-1)).all (fun x=>decide (x=0))=true
      · simp[h9]
      · simp[h9]
    · have h6':at8 b 0/32%2=0:=by omega
      unfold Rp SN;simp[h6',h6]
  · rw[WH h5];simp only[if_true];by_cases a1:b.length<p
    · rw[ZU a1];rfl
    rw[Z3 a1];by_cases a2:at8 b 0/16%2=1∧b.length<p+4
    · rw[ZU a2];rfl
    rw[Z3 a2];by_cases a3:b.length<WJ b
    · rw[ZU a3];rfl
    · exact absurd ⟨a1,a2,a3⟩ h5
def QL(v:Value)(b:List UInt8)(p q:Int)(w:World)(hv:XU w v b):Calls prog 118 #[v,.int .i64 p,.int .i64 q] w fun e w'=>e = .returned (.int .u64 (get b p q:Nat))∧w=w':=by
 have C:=Zh (mh v b p q w hv);clear hv;go_enter func118,ntmps118;go_wp2_with (go_at_call 145;refine C.o.mono ?_;rintro e w' ⟨rfl,rfl⟩)
 go_ret;exact⟨rfl,rfl⟩
def yO(p s:Int)(w:World):Calls prog 61 (Q5 p s) w fun e w'=>e = .returned (.int .u32 (Xl p s))∧w=w':=by
 have HF:Hid (Xl p s=if Vv p 9&&Vv s 9 then 3221225472+(256*p+s)else 0):=rfl;generalize Xl p s=x at *;by_cases h1:p<1
 ·have HX:Hid (x=0):=by show _=_;rw[HF.o,Z3 (by intro h;have:=Xf.1 ((UN _ _).mp h).1;omega)]
  have d1:decide (p<1)=true:=WV h1;exact ej
 have d1:decide (p<1)=false:=WH h1;by_cases h2:8<p
 ·have HX:Hid (x=0):=by show _=_;rw[HF.o,Z3 (by intro h;have:=Xf.1 ((UN _ _).mp h).1;omega)]
  have d2:decide (8<p)=true:=WV h2;exact ej
 have d2:decide (8<p)=false:=WH h2;by_cases h3:s<1
 ·have HX:Hid (x=0):=by show _=_;rw[HF.o,Z3 (by intro h;have:=Xf.1 ((UN _ _).mp h).2;omega)]
  have d3:decide (s<1)=true:=WV h3;exact ej
 have d3:decide (s<1)=false:=WH h3;by_cases h4:8<s
 ·have HX:Hid (x=0):=by show _=_;rw[HF.o,Z3 (by intro h;have:=Xf.1 ((UN _ _).mp h).2;omega)]
  have d4:decide (8<s)=true:=WV h4;exact ej
 have d4:decide (8<s)=false:=WH h4;have HX:Hid (x=3221225472+(256*p+s)):=by show _=_;rw[HF.o,ZU (by rw[Xf.2 ⟨Zo,Zo⟩,Xf.2 ⟨Zo,Zo⟩];rfl)]
 have w1:IntKind.u32.wrap p=p:=by rw[Nr];omega
 have w2:IntKind.u32.wrap s=s:=by rw[Nr];omega
 have w3:IntKind.u32.wrap (p*256)=p*256:=by rw[Nr];omega
 have w4:IntKind.u32.wrap (3221225472+p*256)=3221225472+p*256:=by rw[Nr];omega
 have w5:IntKind.u32.wrap (3221225472+p*256+s)=3221225472+p*256+s:=by rw[Nr];omega
 clear HF;go_enter func61,ntmps61;go_wp2;go_ret;exact⟨Kz (by rw[HX.o];omega),rfl⟩
def vD{x:Int}(h0:0≤x)(h1:x<4294967296)(h:∀p s:Int,1≤p→p<9→1≤s→s<9→Xl p s≠x):UY x=(0,0,false):=by
 have h2:UY x=(if Vv ((x+1073741824)%4294967296/256) 9&&Vv ((x+1073741824)%4294967296%256) 9 then((x+1073741824)%4294967296/256,(x+1073741824)%4294967296%256,true)else(0,0,false)):=rfl;by_cases hc:(Vv ((x+1073741824)%4294967296/256) 9&&Vv ((x+1073741824)%4294967296%256) 9)=true
 ·rw[ZU hc]at h2;have h3:=(DA h0 h1).2 h2;have h4:=Xf.1 h3.1;have h5:=Xf.1 h3.2.1;exact absurd h3.2.2 (h _ _ h4.1 h4.2 h5.1 h5.2)
 ·rw[Z3 hc]at h2;exact h2
def uK(x:Int)(w:World)(h0:0≤x)(h1:x<4294967296) :
  Calls prog 103 #[.int .u32 x] w fun e w'=>e = .returned (.tuple (Q7 (UY x).1 (UY x).2.1 (UY x).2.2))∧w=w':=by
 have CO:=Zh (fun(p s:Int)=>yO p s w);have HY:Hid (∀p s:Int,1≤p→p<9→1≤s→s<9→Xl p s=x→UY x=(p,s,true)):=fun p s a1 a2 a3 a4 h=>(DA h0 h1).1 ⟨Xf.2 ⟨a1,a2⟩,Xf.2 ⟨a3,a4⟩,h⟩
 have HN:Hid ((∀p s:Int,1≤p→p<9→1≤s→s<9→Xl p s≠x)→UY x=(0,0,false)):=fun h=>vD h0 h1 h
 generalize UY x=X at *;clear h0 h1;go_enter func103,ntmps103;go_wp2_with fail
 go_loopw [5] (fun s5 w'=>∃p:Nat,1≤p∧p≤9∧s5 = .int .i64 (p:Int)∧w'=w∧Hid (∀p' s':Int,1≤p'→p'<p→1≤s'→s'<9→Xl p' s'≠x)) (fun s5 _=>9-(intOf s5).toNat)
 case atStart=>exact⟨1,Zo,Zo,rfl,rfl,fun p' s' a b=>by omega⟩
 case round=>
  obtain⟨p,Co,MH,rfl,rfl,HP⟩:=hrel;by_cases hp:p<9
  ·have dp:decide ((p:Int)≤8)=true:=WV Zo;go_wp2_with fail
   go_loopw [6] (fun s6 w'=>∃s:Nat,1≤s∧s≤9∧s6 = .int .i64 (s:Int)∧w'=wr∧Hid (∀s':Int,1≤s'→s'<s→Xl (p:Int) s'≠x)) (fun s6 _=>9-(intOf s6).toNat)
   case atStart=>exact⟨1,Zo,Zo,rfl,rfl,fun s' a b=>by omega⟩
   case round=>
    obtain⟨s,cD,hs9,rfl,rfl,HS⟩:=hrel;by_cases hs:s<9
    ·have ds:decide ((s:Int)≤8)=true:=WV Zo;have C1:=Zh (CO.o p s);by_cases hx:Xl (p:Int) (s:Int)=x
     ·have HX:Hid (X=((p:Int),(s:Int),true)):=HY.o p s Zo Zo Zo Zo hx;rw[hx]at C1;clear HY HN HP HS hx CO;go_wp2_with (go_at_call 61;refine C1.o.mono ?_;rintro e w' ⟨rfl,rfl⟩)
      go_ret3
      exact⟨by rw[HX.o];rfl,rfl⟩
     ·have e1:(Xl (p:Int) (s:Int)==x)=false:=by rw[Wz];exact hx
      have Pz:Hid (∀s':Int,1≤s'→s'<((s+1:Nat):Int)→Xl (p:Int) s'≠x):=fun s' a b=>by
       by_cases h:s'=(s:Int)
       ·rw[h];exact hx
       ·exact HS.o s' a Zo
      clear hx;generalize Xl (p:Int) (s:Int)=z at *;go_wp2_with (go_at_call 61;refine C1.o.mono ?_;rintro e w' ⟨rfl,rfl⟩)
      go_roundw
      case rel=>exact⟨s+1,Zo,Zo,Zn,by first|rfl|trivial,Pz.o⟩
      case measure=>simp[intOf];omega
    ·have cC:s=9:=by omega
     subst cC
     have iN:Hid (∀p' s':Int,1≤p'→p'<((p+1:Nat):Int)→1≤s'→s'<9→Xl p' s'≠x):=fun p' s' a b c d=>by
      by_cases h:p'=(p:Int)
      ·rw[h];exact HS.o s' c d
      ·exact HP.o p' s' a Zo c d
     clear hs;go_wp2;go_roundw
     case rel=>exact⟨p+1,Zo,Zo,Zn,by first|rfl|trivial,iN.o⟩
     case measure=>simp[intOf];omega
  ·have pJ:p=9:=by omega
   subst pJ;have HX:Hid (X=(0,0,false)):=HN.o (fun p s a b c d=>HP.o p s a b c d);clear HP HY HN CO hp;go_wp2
   go_ret3
   exact⟨by rw[HX.o];rfl,rfl⟩
def V8(k n:Nat):Nat:=if k=200 then 6+6*n else if k=201 then 1+6*n else if k=203 then n else if k=205 then 2+n else 2
def uX(k n:Nat)(w:World)(hn:n≤100000):Calls prog 116 (Q5 (k:Int) (n:Int)) w fun e w'=>e = .returned (.int .i64 (V8 k n:Nat))∧w=w':=by
 have HF:Hid (V8 k n=if k=200 then 6+6*n else if k=201 then 1+6*n else if k=203 then n else if k=205 then 2+n else 2):=rfl;generalize V8 k n=x at *;have w1:IntKind.i64.wrap (6*(n:Int))=6*(n:Int):=SZ _ Zo;have w2:IntKind.i64.wrap (6+6*(n:Int))=6+6*(n:Int):=SZ _ Zo;have w3:IntKind.i64.wrap (1+6*(n:Int))=1+6*(n:Int):=SZ _ Zo;have w4:IntKind.i64.wrap (2+(n:Int))=2+(n:Int):=SZ _ Zo;by_cases k0:k=200
 ·have HX:Hid (x=6+6*n):=by show _=_;rw[HF.o,ZU k0]
  subst k0;exact jC
 by_cases k1:k=201
 ·have HX:Hid (x=1+6*n):=by show _=_;rw[HF.o,Z3 k0,ZU k1]
  subst k1;exact jC
 by_cases k3:k=203
 ·have HX:Hid (x=n):=by show _=_;rw[HF.o,Z3 k0,Z3 k1,ZU k3]
  subst k3;exact jC
 by_cases k5:k=205
 ·have HX:Hid (x=2+n):=by show _=_;rw[HF.o,Z3 k0,Z3 k1,Z3 k3,ZU k5]
  subst k5;exact jC
 have HX:Hid (x=2):=by show _=_;rw[HF.o,Z3 k0,Z3 k1,Z3 k3,Z3 k5]
 have e0:((k:Int)==200)=false:=by rw[Wz];omega
 have e1:((k:Int)==201)=false:=by rw[Wz];omega
 have e3:((k:Int)==203)=false:=by rw[Wz];omega
 have e5:((k:Int)==205)=false:=by rw[Wz];omega
 exact jC
def Gk{n:Nat}(h:n<256):((UInt8.ofNat n).toNat:Int)=(n:Int):=by rw[UInt8.toNat_ofNat'];omega
def sG(n:Nat)(w:World)(hn:n<65536):Calls prog 147 #[.int .i64 2,.int .u64 (n:Int)] w fun e w'=>(∃v,e = .returned v∧Row w' 5 v 2 (Re [UInt8.ofNat (n/256),UInt8.ofNat (n%256)]))∧Below w w w':=by
  have cr:∀w:World,(Instr.makeSlice 30 (.int .i64 2) (.int .i64 2)).run prog w = .ok (.slice (some ⟨w,0,none⟩) 2 2) (w.alloc (.cells (Qw 0 0) 5)):=fun w=>by kernel_rfl
  have x8:max (2:Int) 0=2:=by decide
  have hR:Hid (∀w':World,w'.heap[w.heap.size]?=some (.cells (Qw ((n/256:Nat):Int) ((n%256:Nat):Int)) 5 (0,0))→Row w' 5 (.slice (some ⟨w,0,none⟩) 2 2) 2 (Re [UInt8.ofNat (n/256),UInt8.ofNat (n%256)])):=fun w' h=>by
    refine Row.Z4 (base:=0) (size:=1) ⟨rfl,WG ⟨w,2,_,rfl,Tv _,h,by decide,by decide,rfl,?_⟩⟩;simp only[Re,List.map_cons,List.map_nil,Gk (show n/256<256 by omega),Gk (show n%256<256 by omega)];rfl
  have a1:IntKind.u8.wrap ((n:Int)%256)=(n:Int)%256:=by rw[IntKind.wrap_u8];omega
  have a2:IntKind.u8.wrap ((n:Int)/256%256)=(n:Int)/256%256:=by rw[IntKind.wrap_u8];omega
  have hz:=Z9 w (.cells (Qw 0 0) 5);have U_:Hid (Below w w (w.alloc (.cells (Qw 0 0) 5))):=Z' w _;go_enter func147,ntmps147;go_wp2_with fail
  go_loopw [1,6] (fun s1 s6 w'=>Below w w w'∧((s6 = .int .i64 1∧s1 = .int .u64 (n:Int)∧w'.heap[w.heap.size]?=some (.cells (Qw 0 0) 5 (0,0)))∨(s6 = .int .i64 0∧s1 = .int .u64 ((n:Int)/256)∧w'.heap[w.heap.size]?=some (.cells (Qw 0 ((n:Int)%256)) 5 (0,0)))∨(s6 = .int .i64 (-1)∧s1 = .int .u64 ((n:Int)/256/256)∧w'.heap[w.heap.size]?=some (.cells (Qw ((n:Int)/256%256) ((n:Int)%256)) 5 (0,0))))) (fun _ s6 _=>(intOf s6+1).toNat)
  case atStart=>exact⟨U_.o,WQ ⟨rfl,rfl,hz⟩⟩
  case round=>
    obtain⟨Xp,h⟩:=hrel;have R7:=Zh Xp;clear Xp;rcases h with⟨rfl,rfl,hb⟩|⟨rfl,rfl,hb⟩|⟨rfl,rfl,hb⟩
    · have k1:=cell_of hb 1;have f1:=ZP hb 1;simp only[Ss,R_,Rw]at k1;have Y7:=Vu hb 1 (.int .u8 ((n:Int)%256));go_wp2;go_roundw
      case rel=>exact⟨((Fr.Z8 Pj R7.o).setCell (p:=⟨w,1,none⟩) (WQ (Zq _)) _).below,WG (WQ ⟨rfl,rfl,Y7⟩)⟩
      case measure=>simp[intOf]
    · have k1:=cell_of hb 0;have f1:=ZP hb 0;simp only[Ss,R_,Rw]at k1;have Y7:=Vu hb 0 (.int .u8 ((n:Int)/256%256));go_wp2;go_roundw
      case rel=>exact⟨((Fr.Z8 Pj R7.o).setCell (p:=⟨w,0,none⟩) (WQ (Zq _)) _).below,WG (WG ⟨rfl,rfl,Y7⟩)⟩
      case measure=>simp[intOf]
    · have e1:((n/256:Nat):Int)=(n:Int)/256%256:=by omega
      have e2:((n%256:Nat):Int)=(n:Int)%256:=by omega
      have HRR:=Zh (hR.o wr (by rw[e1,e2];exact hb));clear hR;go_wp2;go_ret;exact⟨⟨_,rfl,HRR.o⟩,R7.o⟩
def Hk(ly fr:Int)(ke st:Bool)(w:World)(h0:0≤ly):Calls prog 146 #[.agg (Qd ly ke st fr)] w fun e w'=>e = .returned (.bool (decide (ly≤2)))∧Below w w w':=by
  have d0:decide (0≤ly)=true:=WV h0;go_enter func146,ntmps146;go_wp2;go_ret;exact⟨rfl,Z' w _⟩
def Rf(ly:Nat)(ke st:Bool):Nat:=ly+(if ke then 128 else 0)+(if st then 64 else 0)
def qh(w:World)(e:TypeId)(size n m base:Nat)(xs:List Value)(hl:xs.length=n*size)(hn:n≤maxLen)(hm:m=w.heap.size)(hB:base≤m):(w.alloc (.cells xs.toArray e)).ownsRow base e size (.slice (some ⟨m,0,none⟩) n n) n xs:=by
  exact Yt19
def wV(ly fr:Nat)(ke st:Bool)(w:World)(hl:ly≤2)(hf:fr<65536):Calls prog 119 #[.agg (Qd (ly:Int) ke st (fr:Int))] w fun e w'=>(∃v,e = .returned v∧Row w' 5 v 4 (Re [UInt8.ofNat (Rf ly ke st),90,UInt8.ofNat (fr/256),UInt8.ofNat (fr%256)]))∧Below w w w':=by
  have CM:=Zh (fun w'=>Hk (ly:Int) (fr:Int) ke st w' Zo);have CB:=Zh (fun w'=>sG fr w' hf);have dl:decide ((ly:Int)≤2)=true:=WV Zo;have a9:IntKind.u64.wrap (fr:Int)=(fr:Int):=by rw[IntKind.wrap_u64];omega
  have U_:Hid (Below w w (w.alloc (.cells (Qd (ly:Int) ke st (fr:Int)) 81))):=Z' w _;have hz:=Z9 w (.cells (Qd (ly:Int) ke st (fr:Int)) 81);obtain⟨x,hx⟩:∃x:Int,x=((Rf ly ke st:Nat):Int):=⟨_,rfl⟩
  have HY:Hid (Re [UInt8.ofNat (Rf ly ke st),90,UInt8.ofNat (fr/256),UInt8.ofNat (fr%256)]=[.int .u8 x,.int .u8 90]++Re [UInt8.ofNat (fr/256),UInt8.ofNat (fr%256)]):=by
    show _=_;have hD2:Rf ly ke st<256:=by unfold Rf;split <;> split <;> omega
    simp only[Re,List.map_cons,List.map_nil,Gk hD2,hx];rfl
  rw[HY.o];clear HY;cases ke <;> cases st
  case' false.false=>
    have a0:IntKind.u8.wrap (ly:Int)=x:=by rw[IntKind.wrap_u8,hx];simp[Rf];omega
  case' false.true=>
    have a0:IntKind.u8.wrap (ly:Int)=(ly:Int):=by rw[IntKind.wrap_u8];omega
    have a1:IntKind.u8.wrap ((ly:Int)+64)=x:=by rw[IntKind.wrap_u8,hx];simp[Rf];omega
  case' true.false=>
    have a0:IntKind.u8.wrap (ly:Int)=(ly:Int):=by rw[IntKind.wrap_u8];omega
    have a1:IntKind.u8.wrap ((ly:Int)+128)=x:=by rw[IntKind.wrap_u8,hx];simp[Rf];omega
  case' true.true=>
    have a0:IntKind.u8.wrap (ly:Int)=(ly:Int):=by rw[IntKind.wrap_u8];omega
    have a1:IntKind.u8.wrap ((ly:Int)+128)=(ly:Int)+128:=by rw[IntKind.wrap_u8];omega
    have a2:IntKind.u8.wrap ((ly:Int)+128+64)=x:=by rw[IntKind.wrap_u8,hx];simp[Rf];omega
  all_goals
    clear hx hl;go_enter func119,ntmps119;go_upto_region 3 with(go_at_call 146;refine(CM.o _).mono ?_;rintro e w2 ⟨rfl,Y7⟩;have Yc:=Zh (Tr U_ Y7);have TF:=(Y7.block _ (ZY hz)).trans hz;clear Y7)
    have q0:w2.cell? ⟨w,0,none⟩=some (.int .i64 (ly:Int)):=Zc TF 0 rfl;have q1:=cell_of TF 1;have q2:=cell_of TF 2;have q3:w2.cell? ⟨w,3,none⟩=some (.int .u16 (fr:Int)):=Zc TF 3 rfl;simp only[Ss,R_,Rw]at q1 q2;have q4:=((Z' w2 (.cells (Qw x 90) 5)).cell (p:=⟨w,3,none⟩) (ZY TF)).trans q3;have LJ:Hid ((w2.alloc (.cells (Qw x 90) 5)).ownsRow w 5 1 (.slice (some ⟨w2,0,none⟩) 2 2) 2 (Qw x 90)):=qh w2 5 1 2 w2 w.heap.size (Qw x 90) rfl Zd rfl Yc.o.size;have WB:Hid (Below w w (w2.alloc (.cells (Qw x 90) 5))):=ZA Yc.o (Zq _) _
    have HN9:Hid (∀u∈Re [UInt8.ofNat (fr/256),UInt8.ofNat (fr%256)],u.oneCell'=true):=fun u hu=>by
      simp only[Re,List.map_cons,List.map_nil,K5,List.mem_nil_iff,or_false]at hu;rcases hu with rfl|rfl <;> rfl
    clear hz TF;go_wp2_with (first|(go_at_call 147;refine(CB.o _).mono ?_;rintro e w4 ⟨⟨v4,rfl,hr⟩,S0⟩;have HR4:=Zh hr;have U5:=Zh (Tr WB S0);have HOW4:=Zh (Yq LJ.o S0);clear hr S0)|(at_builtin;refine YN rfl (.tmp 19) (.tmp 23) 30 rfl w Vt (.slice (some ⟨w2,0,none⟩) 2 2) 2 (Qw x 90) rfl HOW4.o v4 2 (Re [UInt8.ofNat (fr/256),UInt8.ofNat (fr%256)]) rfl HR4.o rfl HN9.o Zd Zd U5.o.size (fun v5 w5 aD cY=>?_)))
    go_ret;exact⟨⟨_,rfl,Row.Z4 aD.o⟩,((Fr.Z8 Pj U5.o).grown cY.o U5.o.size (YG HOW4.o)).below⟩
def Af(ly fr:Int)(ke st:Bool)(w:World)(h2:2<ly):Calls prog 119 #[.agg (Qd ly ke st fr)] w fun e w'=>e = .returned (.slice none 0 0)∧Below w w w':=by
  have CM:=Zh (fun w'=>Hk ly fr ke st w' Zo);have U_:Hid (Below w w (w.alloc (.cells (Qd ly ke st fr) 81))):=Z' w _;have dl:decide (ly≤2)=false:=WH Zo;go_enter func119,ntmps119;go_wp2_with (go_at_call 146;refine(CM.o _).mono ?_;rintro e w2 ⟨rfl,Y7⟩;have Yc:=Zh (Tr U_ Y7);clear Y7)
  go_ret;exact⟨rfl,Yc.o⟩
section
open Go.WideShapes Go.ChangeShapes Go.Deep
structure Wu(w:World)(v:Value)(L:List WR):Prop where
 row:XG w v L.length (L.flatMap fun y=>XD y.x)
 each:∀y∈L,XG w (.slice y.x.sa y.x.o.ZG.length y.x.sc) y.x.o.ZG.length (YF y.x.o.ZG)∧XU w (.slice y.x.ba y.x.bl y.x.bc) y.b∧y.x.o.name.length<9223372036854775807
def Wu.below{w w':World}{v:Value}{L:List WR}(h:Wu w v L)(hb:Below w w w'):Wu w' v L:=⟨h.row.below hb,fun y hy=>⟨(h.each y hy).1.below hb,(h.each y hy).2.1.below hb,(h.each y hy).2.2⟩⟩
section
variable {H:Type} {enc:TypeId×Value→H} {W:World} {base:Nat} {sp:Nat→Bool} {held:Bool}
def mN{z:Int}(h:(Lit.int .u8 z).wf=true):0≤z∧z<256:=by
 have h:=(UN _ _).mp h;have h1:=of_decide_eq_true h.1;have h2:=of_decide_eq_true h.2;have e1:IntKind.min .u8=0:=by decide
 have e2:IntKind.max .u8=255:=by decide
 omega
def mJ{fuel:Nat}{v:Value}{x:DataW H×List MemPlace}(h:DataW.trod enc prog W base sp held fuel 30 [v]=some x):∃(l:List UInt8) (a:Option Addr) (n c:Nat),v = .slice a n c∧XU W (.slice a n c) l:=by
 rcases open_slice1 underlying30 X6 h with⟨hc,_⟩|⟨a,len,cap,m,n,V,D,Pl,Tx,hb,hl,hm,kH,_,hx⟩
 ·exact⟨[],none,0,0,by simpa using hc,XG.nil _⟩
 ·have AV:len≤m:=by rw[kH];split <;> omega
  have hv:v = .slice (some a) len cap:=by simpa using Tx
  have key:∀i,i<len→∃z:UInt8,W.cell? (a.add i)=some (.int .u8 (z.toNat:Int))∧V i = .int .u8 (z.toNat:Int):=by
   intro i hi;obtain⟨h1,h2⟩:=hx i Zo;obtain⟨z,hz,_,hwf⟩:=DataW.trod_int underlying5 h2;obtain⟨r0,r1⟩:=mN hwf;have hz:V i = .int .u8 z:=by simpa using hz
   have e:((UInt8.ofNat z.toNat).toNat:Int)=z:=by
    rw[UInt8.toNat_ofNat'];omega
   exact⟨UInt8.ofNat z.toNat,by rw[h1,hz,e],by rw[hz,e]⟩
  let l:List UInt8:=(List.range len).map fun i=>match V i with | .int _ z=>UInt8.ofNat z.toNat|_=>0
  have t_:l.length=len:=by simp[l]
  refine⟨l,some a,len,cap,hv,some a,cap,by rw[t_],by rw[t_];exact hl,hm,(fun h=>by cases h),?_⟩;by_cases h0:len=0
  ·exact WQ (BK (by rw[Xa,t_];exact h0))
  ·obtain⟨z0,vX,_⟩:=key 0 Zo;have lD:W.cell? a=some (.int .u8 (z0.toNat:Int)):=by unfold Addr.add at vX;simpa using vX
   have ha:=Mn lD;refine WG ⟨a.block,a.off,by rw[←ha],World.block_lt_of_cell? W a lD,fun j hj=>?_⟩;rw[Xa,t_]at hj;obtain⟨z,hz,hV⟩:=key j hj;rw[←JW ha,hz]
   have hlj:l[j]?=some z:=by
    have e:UInt8.ofNat z.toNat=z:=by simp
    simp[l,hj,hV]
   simp only[Re,List.getElem?_map,hlj,Option.map_some]
def mI{fuel:Nat}{cs:List Value}{x:DataW H×List MemPlace}(h:DataW.trod enc prog W base sp held fuel 32 cs=some x) :
  ∃y:WR,cs=XD y.x∧(XG W (.slice y.x.sa y.x.o.ZG.length y.x.sc) y.x.o.ZG.length (YF y.x.o.ZG)∧XU W (.slice y.x.ba y.x.bl y.x.bc) y.b)∧y.x.o.name.length∈x.1.weights prog 32:=by
 obtain⟨xs,n,_,pP,hlen,hxl,hf⟩:=DataW.trod_struct underlying32 h;have hC:prog.cellsOf 32=7:=by kernel_rfl
 have k1:prog.cellsOf 3=1:=by kernel_rfl
 have k2:prog.cellsOf 9=1:=by kernel_rfl
 have k3:prog.cellsOf 29=1:=by kernel_rfl
 have k4:prog.cellsOf 30=1:=by kernel_rfl
 rw[hC]at hlen;obtain⟨c0,c1,c2,c3,c4,c5,c6,rfl⟩:∃c0 c1 c2 c3 c4 c5 c6,cs=[c0,c1,c2,c3,c4,c5,c6]:=seven hlen;clear h hC;have hx:∀j,j<7→∃y,xs[j]?=some y:=fun j hj=>⟨xs[j]'(by rw[hxl];exact hj),U' _⟩
 obtain⟨y0,e0⟩:=hx 0 Zo;obtain⟨y1,e1⟩:=hx 1 Zo;obtain⟨y2,e2⟩:=hx 2 Zo;obtain⟨y3,e3⟩:=hx 3 Zo;obtain⟨y4,e4⟩:=hx 4 Zo;obtain⟨y5,e5⟩:=hx 5 Zo;obtain⟨y6,e6⟩:=hx 6 Zo;have h0:DataW.trod enc prog W base sp held n 3 (([c0,c1,c2,c3,c4,c5,c6].drop 0).take (prog.cellsOf 3))=some y0:=(hf 0 _ rfl).trans e0;have h1:DataW.trod enc prog W base sp held n 3 (([c0,c1,c2,c3,c4,c5,c6].drop 1).take (prog.cellsOf 3))=some y1:=(hf 1 _ rfl).trans e1;have h2:DataW.trod enc prog W base sp held n 3 (([c0,c1,c2,c3,c4,c5,c6].drop 2).take (prog.cellsOf 3))=some y2:=(hf 2 _ rfl).trans e2;have h3:DataW.trod enc prog W base sp held n 3 (([c0,c1,c2,c3,c4,c5,c6].drop 3).take (prog.cellsOf 3))=some y3:=(hf 3 _ rfl).trans e3;have h4:DataW.trod enc prog W base sp held n 9 (([c0,c1,c2,c3,c4,c5,c6].drop 4).take (prog.cellsOf 9))=some y4:=(hf 4 _ rfl).trans e4;have h5:DataW.trod enc prog W base sp held n 29 (([c0,c1,c2,c3,c4,c5,c6].drop 5).take (prog.cellsOf 29))=some y5:=(hf 5 _ rfl).trans e5;have h6:DataW.trod enc prog W base sp held n 30 (([c0,c1,c2,c3,c4,c5,c6].drop 6).take (prog.cellsOf 30))=some y6:=(hf 6 _ rfl).trans e6;rw[k1]at h0 h1 h2 h3;rw[k2]at h4;rw[k3]at h5;rw[k4]at h6;obtain⟨z0,g0,_⟩:=DataW.trod_int underlying3 h0;obtain⟨z1,g1,_⟩:=DataW.trod_int underlying3 h1
 obtain⟨z2,g2,_⟩:=DataW.trod_int underlying3 h2;obtain⟨z3,g3,_⟩:=DataW.trod_int underlying3 h3;obtain⟨s4,g4,gy4,hs4⟩:=DataW.trod_string underlying9 h4;obtain⟨l5,a5,n5,g5,hr5⟩:=Dz (v:=c5) h5;obtain⟨b6,a6,l6,n6,g6,hr6⟩:=mJ (v:=c6) h6;have g0:c0 = .int .i64 z0:=by simpa using g0
 have g1:c1 = .int .i64 z1:=by simpa using g1
 have g2:c2 = .int .i64 z2:=by simpa using g2
 have g3:c3 = .int .i64 z3:=by simpa using g3
 have g4:c4 = .string s4:=by simpa using g4
 refine⟨⟨⟨⟨z0,z1,z2,z3,s4.data.toList,l5⟩,a5,n5,a6,l6,n6⟩,b6⟩,?_,⟨hr5,hr6⟩,?_⟩
 ·rw[g0,g1,g2,g3,g4,g5,g6];simp only[XD,str_eq]
 ·exact Yx97
def p_{t:TypeId}{v:Value}{d:DataW H}{ps:List MemPlace}(ht:prog.underlying t=some (.slice 32))(Ls:v.cells=#[v])(h:DataW.Trod enc prog W base sp held t v d ps)(hz:∀n∈d.weights prog t,n≤reachBytes):∃l,Wu W v l:=by
 obtain⟨fuel,h⟩:=h;rw[Ls]at h;have hC:prog.cellsOf 32=7:=by kernel_rfl
 rcases open_slice ht h with⟨hc,_⟩|⟨a,len,cap,m,n,D,Pl,Tx,hb,hl,hm,kH,hdx,hx⟩
 ·have:v = .slice none 0 0:=by simpa using hc
  subst this;exact⟨[],XG.nil _,fun x hx=>by simp at hx⟩
 ·have AV:len≤m:=by rw[kH];split <;> omega
  have hv:v = .slice (some a) len cap:=by simpa using Tx
  subst hv
  have key:∀i,∃y:WR,i<len→(∀j,j<7→W.cell? ((a.add (i*7)).add j)=(XD y.x)[j]?)∧(XG W (.slice y.x.sa y.x.o.ZG.length y.x.sc) y.x.o.ZG.length (YF y.x.o.ZG)∧XU W (.slice y.x.ba y.x.bl y.x.bc) y.b∧y.x.o.name.length<9223372036854775807):=by
   intro i;by_cases hi:i<len
   ·obtain⟨cs',h1,h2⟩:=hx i Zo;rw[hC]at h1;obtain⟨_,hcl',V5⟩:=World.cells?_some h1;obtain⟨y,hy,⟨hr,OA⟩,hn⟩:=mI h2
    have fM:y.x.o.name.length<9223372036854775807:=by
     have hd:d = .slice ((List.range len).map D) ((List.range (m-len)).map fun j=>D (len+j)):=by injection hdx
     have:=hz y.x.o.name.length (by
      rw[hd];unfold DataW.weights;rw[ht]
      refine List.mem_cons_of_mem _ (EZ.2 (WQ (M6 (vS.2 ⟨i,by simpa using hi,rfl⟩) _ hn))))
     have:=Nat.lt_of_le_of_lt this reachBytes_lt;omega
    refine⟨y,fun _=>⟨fun j hj=>?_,hr,OA,fM⟩⟩;have:=V5 j hj;rw[←hy,this]
   ·exact⟨⟨⟨⟨0,0,0,0,[],[]⟩,none,0,none,0,0⟩,[]⟩,fun h=>absurd h hi⟩
  obtain⟨Y,hY⟩:=Classical.axiomOfChoice key
  let l:List WR:=(List.range len).map Y
  have t_:l.length=len:=by simp[l]
  refine⟨l,⟨some a,cap,by rw[t_],by rw[t_];exact hl,hm,(fun h=>by cases h),?_⟩,?_⟩
  ·by_cases h0:len=0
   ·exact WQ (by rw[BK (t_.trans h0)];rfl)
   ·have hz:=(hY 0 Zo).1 0 Zo;have vX:W.cell? a=some (.int .i64 (Y 0).x.o.kind):=by simpa[Addr.add,XD]using hz
    have ha:=Mn vX;refine WG ⟨a.block,a.off,by rw[←ha],World.block_lt_of_cell? W a vX,fun j hj=>?_⟩;have vU:(l.flatMap fun y=>XD y.x).length=len*7:=by rw[XH (fun y:WR=>XD y.x) 7 (fun _=>rfl),t_]
    rw[vU]at hj;have hi:j/7<len:=by omega
    have kE:l[j/7]?=some (Y (j/7)):=by simp[l,hi]
    have:=Mg (fun y:WR=>XD y.x) 7 (fun _=>rfl) l (j/7) (j%7) _ kE Zo;exact Yx112
  ·intro x hx;obtain⟨i,hi,rfl⟩:=vS.1 hx;exact(hY i (by simpa using hi)).2
end
end
