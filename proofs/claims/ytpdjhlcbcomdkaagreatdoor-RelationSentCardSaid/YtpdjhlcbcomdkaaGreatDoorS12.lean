import Derived.Test.YtpdjhlcbcomdkaaGreatDoorS11
set_option linter.all false
set_option maxRecDepth 100000
set_option maxHeartbeats 16000000
open Go Go.Q Go.Qr Go.Proofs.Tryz Go.RowKit
namespace Go.Proofs.By
def eN{w:World}{x:zR}(h:GU w x):∀u∈Xb x,u.oneCell'=true:=by
 obtain⟨⟨a1,c1,h1⟩,⟨a2,c2,h2⟩,⟨a3,c3,h3⟩⟩:=Vp.form h.p;obtain⟨a4,c4,h4⟩:=YB.form h.i;obtain⟨e,cv,ev,pv,iv⟩:=x;dsimp only at h1 h2 h3 h4;subst h1;subst h2;subst h3;subst h4;intro u hu;simp only[Xb,SQ,VT,List.cons_append,IC,K5,List.mem_nil_iff,or_false]at hu;rcases hu with rfl|rfl|rfl|rfl|rfl|rfl|rfl|rfl|rfl|rfl|rfl|rfl|rfl|rfl|rfl|rfl|rfl <;> rfl
structure MS(w w':World)(k b ob:Nat)(o7:Array Value)(cs:Array Value)(av:Value)(A:List Et)(ev:Value)(E:List zR)(lv:Value)(LS:List Zt)(T:ZK):Prop where
 st:Wv w w' k cs av A ev E lv LS
 ref:ZI w' b T
 op:w'.heap[ob]?=some (.cells o7 32 (0,0))
 Za:Below w w w'
 kk:w.heap.size≤k
 bb:w.heap.size≤b
 oo:w.heap.size≤ob
section
variable {w w1 w2:World} {k b ob:Nat} {o7 cs:Array Value} {av:Value} {A:List Et} {ev:Value} {E:List zR} {lv:Value} {LS:List Zt} {T:ZK}
def MS.below(h:MS w w1 k b ob o7 cs av A ev E lv LS T)(hb:Below w1 w1 w2):MS w w2 k b ob o7 cs av A ev E lv LS T:=
 ⟨h.st.below hb,h.ref.below hb,(hb.block _ (ZY h.op)).trans h.op,h.Za.trans (hb.mono h.Za.size),h.kk,h.bb,h.oo⟩
def MS.F_(h:MS w w1 k b ob o7 cs av A ev E lv LS T)(o:Nat)(u:Value):MS w (w1.setCell ⟨k,o,none⟩ u) k b ob o7 (cs.setIfInBounds o u) av A ev E lv LS T:=by
 have hf:Fr w1 (· = k) w1 (w1.setCell ⟨k,o,none⟩ u):=(Fr.refl _ _ _).setAt _ _;have hoff:=UH (ts:=[91,103,108,105,66]) h.st.Y8 Zd;exact⟨h.st.F_ o u,T9 h.ref hf hoff,(hf.block _ (ZY h.op) (fun e=>UH (ts:=[32]) h.st.Y8 Zd _ Zi _ _ _ e h.op)).trans h.op,(Fr.setCell (p:=⟨k,o,none⟩) (Fr.Z8 Pj h.Za) (WQ h.kk) u).below,h.kk,h.bb,h.oo⟩
def MS.B_(h:MS w w1 k b ob o7 cs av A ev E lv LS T)(hg:w1.grownBy w2 av.ownBlock){v':Value}{l':List Et}(ho:w2.ownsRow w 35 4 v' l'.length (l'.flatMap VF)):MS w w2 k b ob o7 cs v' l' ev E lv LS T:=
 ⟨h.st.B_ hg ho,T9 h.ref (XN hg) (QX h.st.XR Zd),(hg.block _ (ZY h.op) (fun e=>Y0 h.st.XR Zd _ _ _ e.symm h.op)).trans h.op,((Fr.Z8 Pj h.Za).grown hg h.Za.size (YG h.st.XR)).below,h.kk,h.bb,h.oo⟩
def MS.xO(h:MS w w1 k b ob o7 cs av A ev E lv LS T)(hg:w1.grownBy w2 lv.ownBlock){v':Value}{l':List Zt}(ho:w2.ownsRow w 59 4 v' l'.length (l'.flatMap Z5)):MS w w2 k b ob o7 cs av A ev E v' l' T:=
 ⟨h.st.xO hg ho,T9 h.ref (XN hg) (QX h.st.P6 Zd),(hg.block _ (ZY h.op) (fun e=>Y0 h.st.P6 Zd _ _ _ e.symm h.op)).trans h.op,((Fr.Z8 Pj h.Za).grown hg h.Za.size (YG h.st.P6)).below,h.kk,h.bb,h.oo⟩
def MS.j0(h:MS w w1 k b ob o7 cs av A ev E lv LS T)(hg:w1.grownBy w2 ev.ownBlock){v':Value}{x:zR}(hx:GU w1 x)(ho:w2.ownsRow w 84 17 v' (E++[x]).length ((E++[x]).flatMap Xb)):MS w w2 k b ob o7 cs av A v' (E++[x]) lv LS T:=
 ⟨h.st.j0 hg hx ho,T9 h.ref (XN hg) (QX h.st.Az Zd),(hg.block _ (ZY h.op) (fun e=>Y0 h.st.Az Zd _ _ _ e.symm h.op)).trans h.op,((Fr.Z8 Pj h.Za).grown hg h.Za.size (YG h.st.Az)).below,h.kk,h.bb,h.oo⟩
def MS.newL(h:MS w w1 k b ob o7 cs av A ev E lv LS T)(hf:Fr w1 (fun j=>lv.ownBlock=some j) w1 w2){sW:List Zt}(ho:w2.ownsRow w 59 4 lv sW.length (sW.flatMap Z5)):MS w w2 k b ob o7 cs av A ev E lv sW T:=
 ⟨h.st.newL hf (QX h.st.P6 Zd) ho,T9 h.ref hf (QX h.st.P6 Zd),(hf.block _ (ZY h.op) (fun e=>Y0 h.st.P6 Zd _ _ _ e h.op)).trans h.op,h.Za.trans ((hf.mono h.Za.size (S':=Pj) (fun i hi hs=>by have:=YG h.st.P6 i hs;omega)).below),h.kk,h.bb,h.oo⟩
def MS.room(h:MS w w1 k b ob o7 cs av A ev E lv LS T){T':ZK}{cs':Array Value}(hk:w2.heap[k]?=some (.cells cs' 44 (0,0)))(hr:ZI w2 b T')(hf:Fr w1 (fun j=>j=k∨j=b) w1 w2):MS w w2 k b ob o7 cs' av A ev E lv LS T':=by
 obtain⟨_,_,_,hc,_⟩:=h.ref.Vm;have h1:=lV (UH (ts:=32 :: Mq.drop 1) h.st.Y8 Zd) (UH hc Zd);exact⟨h.st.frS hf (fun e he=>h1 e (List.mem_cons_of_mem _ he)) hk,hr,(hf.block _ (ZY h.op) (fun e=>h1 _ (List.mem_cons_self ..) _ _ _ e h.op)).trans h.op,h.Za.trans ((hf.mono h.Za.size (S':=Pj) (fun i hi hs=>by have:=h.kk;have:=h.bb;omega)).below),h.kk,h.bb,h.oo⟩
end
structure SS(w w':World)(k b:Nat)(vs:Option Addr)(vc:Nat)(av ev lv:Value)(L:List WR)(j:Nat)(E:List zR)(T:ZK)(R:Room)(ep:Int):Prop where
 st:Wv w w' k (Qx vs L.length vc av ev lv (Pb L j).bad (Pb L j).XE (Pb L j).unknown (Pb L j).refused 0 0 0 0 (some ⟨b,0,none⟩)) av (XV L j) ev E lv (Zg L L.length j)
 ref:ZI w' b T
 Za:Below w w w'
 kk:w.heap.size≤k
 bb:w.heap.size≤b
 Az:E.map (·.e)=Fe L j
 sim:Wp T R
 inv:Inv R
 Bl:Wc R
 bare:R.bare=(Yf L j).1
 eK:ep=(Yf L j).2
 li:LI L.length (opens R) (Zg L L.length j)
 xA:(Pb L j).Below (8001*(j:Int))
 ops:Wu w' (.slice vs L.length vc) L
def SS.below{w w1 w2:World}{k b:Nat}{vs:Option Addr}{vc:Nat}{av ev lv:Value}{L:List WR}{j:Nat}{E:List zR}{T:ZK}{R:Room}{ep:Int}(h:SS w w1 k b vs vc av ev lv L j E T R ep)(hb:Below w1 w1 w2):SS w w2 k b vs vc av ev lv L j E T R ep:=
 ⟨h.st.below hb,h.ref.below hb,h.Za.trans (hb.mono h.Za.size),h.kk,h.bb,h.Az,h.sim,h.inv,h.Bl,h.bare,h.eK,h.li,h.xA,h.ops.below hb⟩
def oN(k b:Nat)(oa:Option Addr)(n oc:Nat)(av ev lv:Value)(c:QN)(T:ZK)(R:Room)(ep:Int)(o:Op)(sa ba:Option Addr)(sc bl bc:Nat)(bs:List UInt8)(sv:Value)(w:World)
  (Ov:w.heap[k]?=some (.cells (Qx oa n oc av ev lv c.bad c.XE c.unknown c.refused 0 0 0 0 (some ⟨b,0,none⟩)) 44 (0,0))) (hR:ZI w b T) (hs:Wp T R) (hI:Inv R) (hS:Wc R) (hT:Xn w) (UD:o.name.length<9223372036854775807) (LW:XG w (.slice sa o.ZG.length sc) o.ZG.length (YF o.ZG)) (py:XU w (.slice ba bl bc) bs) (h0:0≤ep) (h9:ep<1000000000) (hc:c.Below 1000000000) :
  Calls prog 42 (Qu (some ⟨k,0,none⟩) (Jr o sa o.ZG.length sc ba bl bc) ep) w (TV k b oa n oc av ev lv c (take R ep o bs sv) w):=by
 by_cases h:o.kind=1
 ·exact jF k b oa n oc av ev lv c T R ep o sa ba o.ZG.length sc bl bc bs sv w Ov hR hs hI hS py h0 h9 hc h
 ·exact oO k b oa n oc av ev lv c T R ep o sa ba sc bl bc bs sv w Ov hR hs hI hT UD LW h0 h9 hc h
def dL(v:Value)(L:List WR)(w:World)(hT:Xn w)(h:Wu w v L)(hL:L.length≤256) :
  Calls prog 17 #[v] w fun e w'=>∃k b vs vc av ev lv E T R ep,e = .returned (.pointer (some ⟨k,0,none⟩))∧SS w w' k b vs vc av ev lv L L.length E T R ep:=by
 obtain⟨va,vc,rfl,hvc,x8⟩:=h.form;have hKm:min (L.length:Int) 256=(L.length:Int):=by omega
 obtain⟨vs,Uf,-,Fw⟩:=RT (P:=prog) tO va L.length vc L.length Zo
 have HO:Hid (Wu w (.slice vs L.length vc) L):=by
  have h2:=h.take (Zq _) Fw
  rwa[nv]at h2
 have HT:Hid (∀w',Below w w w'→Xn w'):=fun w' h=>Utf8Tabs_below hT h
 clear h Fw hT;go_enter func17,ntmps17;go_upto_region 2 with fail
 have vX:=VP w (Jh none 0 0 none 0 0 none 0 0) (Ji vs L.length vc none 0 0 none 0 0 none 0 0 0 0 0 0 0 0 0 0 (some ⟨w,0,none⟩)) 91 44;have U_:Hid (Below w w ((w.alloc (.cells (Jh none 0 0 none 0 0 none 0 0) 91)).alloc (.cells (Ji vs L.length vc none 0 0 none 0 0 none 0 0 0 0 0 0 0 0 0 0 (some ⟨w,0,none⟩)) 44))):=ZA (Z' w _) (Zq _) _;obtain⟨PF,TF,lF⟩:=vX;have k0:((w.alloc (.cells (Jh none 0 0 none 0 0 none 0 0) 91)).alloc (.cells (Ji vs L.length vc none 0 0 none 0 0 none 0 0 0 0 0 0 0 0 0 0 (some ⟨w,0,none⟩)) 44)).cell? ⟨w.heap.size+1,0,none⟩=some (.slice vs L.length vc):=Zc TF 0 rfl
 have EN:Hid (SS w ((w.alloc (.cells (Jh none 0 0 none 0 0 none 0 0) 91)).alloc (.cells (Ji vs L.length vc none 0 0 none 0 0 none 0 0 0 0 0 0 0 0 0 0 (some ⟨w,0,none⟩)) 44)) (w.heap.size+1) w vs vc (.slice none 0 0) (.slice none 0 0) (.slice none 0 0) L 0 [] ⟨[],[],[]⟩ empty 0):=
  ⟨⟨TF,TH _ _ _ _,TH _ _ _ _,fun _ h=>(by cases h),TH _ _ _ _⟩,⟨_,_,_,PF,Row.nil _ _,⟨[],rfl,Row.nil _ _,fun _ h=>(by cases h)⟩,Row.nil _ _⟩,U_.o,JV _,Zq _,rfl,Dt,S8,Uj,rfl,rfl,by rw[MP];exact LI.nil _,(show lT.Below (8001*((0:Nat):Int))from⟨by decide,by decide,by decide,by decide⟩),HO.o.below U_.o⟩
 clear PF TF lF;generalize((w.alloc (.cells (Jh none 0 0 none 0 0 none 0 0) 91)).alloc (.cells (Ji vs L.length vc none 0 0 none 0 0 none 0 0 0 0 0 0 0 0 0 0 (some ⟨w,0,none⟩)) 44))=w0 at *;go_wp2_with fail
 go_loopw [4,25] (fun s4 s25 w'=>∃(j:Nat) (av ev lv:Value) (E:List zR) (T:ZK) (R:Room) (ep:Int),j≤L.length∧s25 = .int .i64 (j:Int)∧s4 = .int .i64 ep∧SS w w' (w.heap.size+1) w vs vc av ev lv L j E T R ep) (fun _ s25 _=>L.length-(intOf s25).toNat)
 case atStart=>exact⟨0,_,_,_,_,_,_,_,Zo,rfl,rfl,EN.o⟩
 case round=>
  obtain⟨j,av,ev,lv,E,T,R,ep,hj,rfl,rfl,Sd⟩:=hrel;have rq:=Zh Sd;clear EN k0;by_cases RZ:j<L.length
  ·obtain⟨aa,ac,hav⟩:=Row.form (Row.Z4 Sd.st.XR);obtain⟨ea,ec,hevv⟩:=Row.form (Row.Z4 Sd.st.Az);obtain⟨la,lc,ub⟩:=Row.form (Row.Z4 Sd.st.P6);subst hav;subst hevv;subst ub;have hhk:=Sd.kk;have hhb:=Sd.bb;have hKB:(w.heap.size+1)≠w.heap.size:=by omega
   generalize w.heap.size+1=k at *;obtain⟨b,hbd0⟩:∃b,b=w.heap.size:=⟨_,rfl⟩;have iw:=Zh hbd0;clear hbd0;have vP:Hid (SS w wr k b vs vc (.slice aa (XV L j).length ac) (.slice ea E.length ec) (.slice la (Zg L L.length j).length lc) L j E T R ep):=by rw[iw.o];exact Sd
   obtain⟨g',off',cap',e1,-,-,-,V5⟩:=KG (fun y:WR=>XD y.x) 7 (fun _=>rfl) Zo Sd.ops.row Zo;cases e1;have hy:L[j]?=some L[j]:=U' RZ;have V5:=V5 j _ hy;have fD:=HO.o.each L[j] (O6 RZ);have Ad:=Zh (fun sv=>yZ hy Sd.bare Sd.eK sv);have BC:Hid (VQ L j=DY L[j].x.o L[j].b):=by show _=_;unfold VQ;rw[hy]
   have hbd2:=I_ L j;rw[←Sd.eK]at hbd2;have iH:=Zh (fun(T':ZK) (sv:Value) (h':Wp T' (take R ep L[j].x.o L[j].b sv).1.2)=>uy (n:=L.length) (at':=j) Zo Sd.inv Sd.Bl Sd.sim ep L[j].x.o L[j].b sv h' Sd.li);have Pg:=Zh (fun sv=>Bo Sd.inv Sd.Bl ep L[j].x.o L[j].b sv);have HEP:=Zh (Dr RZ);have hEb:E.length≤256:=by have h2:=congrArg List.length Sd.Az;rw[Te]at h2;rw[h2];unfold Fe;rw[Te,List.length_range];omega
   have HCN:Hid (Pb L (j+1)=(Pb L j).add (Z6 L j).XR.kind (Z6 L j).unknown):=rfl;have au:=Zh Sd.xA;have HAS:=Zh (Hn L j);have HES:=Zh (tP L j);have HEE:=Zh Sd.Az;have HLS:Hid (Zg L L.length (j+1)=W8 L.length j (Zg L L.length j) (Z6 L j).turns):=rfl;have hlen:=RJ L L.length j;have UU:(XV L j).length≤256:=by rw[XF];omega
   have hcb:(Pb L j).Below 1000000000:=by
    obtain⟨⟨a1,a2⟩,⟨b1,b2⟩,⟨c1,c2⟩,⟨d1,d2⟩⟩:=Sd.xA;exact⟨⟨a1,Zo⟩,⟨b1,Zo⟩,⟨c1,Zo⟩,⟨d1,Zo⟩⟩
   have L6:=Zh Sd.sim;have EPS:=Zh Sd.eK;have nW:=Zh vP.o.st;have TP:=Zh vP.o.ref;have O5:=Zh vP.o.Za;have dA:=Zh vP.o.kk;have HQ4:=Zh vP.o.bb;have HINV:=Zh Sd.inv;have HSLM:=Zh Sd.Bl;clear hy;generalize L[j]=y at *;generalize Zg L L.length j=LS at *;generalize XV L j=A at *;generalize Pb L j=c at *;obtain⟨⟨⟨kd,p,s,q,nm,ss⟩,sa,sc,ba,bl,bc⟩,bs⟩:=y;dsimp only at fD Ad BC iH Pg;obtain⟨LW,py,UD⟩:=fD;have Nk:wr.rangeAt g' (off'+j*7) (Qa kd p s q (str nm) sa ss.length sc ba bl bc):=fun m v hm=>(V5 m (by have h:=(List.getElem?_eq_some_iff.1 hm).1;simpa using h)).trans hm
   have Cj:(j:Int)<(L.length:Int):=PM.2 RZ;have hz:=Z9 wr (.cells (Qa 0 0 0 0 ⟨#[]⟩ none 0 0 none 0 0) 32);have SA:=setRow_heap _ _ _ (Qa kd p s q (str nm) sa ss.length sc ba bl bc) _ _ hz;have VA:Hid (Below wr wr ((wr.alloc (.cells (Qa 0 0 0 0 ⟨#[]⟩ none 0 0 none 0 0) 32)).setRow wr (Qa kd p s q (str nm) sa ss.length sc ba bl bc))):=Z0 (Z' wr _) (Zq _) _;have gI:Hid (MS w ((wr.alloc (.cells (Qa 0 0 0 0 ⟨#[]⟩ none 0 0 none 0 0) 32)).setRow wr (Qa kd p s q (str nm) sa ss.length sc ba bl bc)) k b wr (Qa kd p s q (str nm) sa ss.length sc ba bl bc) (Qx (some ⟨g',off',none⟩) L.length vc (.slice aa A.length ac) (.slice ea E.length ec) (.slice la LS.length lc) c.bad c.XE c.unknown c.refused 0 0 0 0 (some ⟨b,0,none⟩)) (.slice aa A.length ac) A (.slice ea E.length ec) E (.slice la LS.length lc) LS T):=⟨nW.o.below VA.o,TP.o.below VA.o,SA,Tr O5 VA.o,dA.o,HQ4.o,O5.o.size⟩;clear V5 Sd vP rq VA nW TP O5 dA HQ4;go_upto_region 6 with(first|with_reducible refine Zm Nk underlying32 ?_|with_reducible refine Zs hz ?_)
   clear hz Nk SA;generalize((wr.alloc (.cells (Qa 0 0 0 0 ⟨#[]⟩ none 0 0 none 0 0) 32)).setRow wr (Qa kd p s q (str nm) sa ss.length sc ba bl bc))=w1 at *;generalize wr.heap.size=ob at *;have o6:w1.cell? ⟨ob,6,none⟩=some (.slice ba bl bc):=Zc gI.o.op 6 rfl;have CS:=Zh (Dk _ bs w1 (XG.below py gI.o.Za));have cX:Hid (DY ⟨kd,p,s,q,nm,ss⟩ bs=if kd=1 then(XX bs).1 else .none):=rfl;generalize XX bs=SB at *;obtain⟨D,er⟩:=SB;dsimp only at CS cX;go_upto_if 38 with(go_at_call 41;refine CS.o.mono ?_;rintro e w2 ⟨⟨a,rfl,LQ⟩,Y7⟩;obtain⟨cv,xv,pv,iv,rfl,G'⟩:=wX.form LQ;obtain⟨⟨ca,cc,G9⟩,⟨gN,gP,cH⟩,⟨pa,pc,Mk⟩⟩:=Vp.form G'.p;obtain⟨ia,ic,Ci⟩:=YB.form G'.i;dsimp only at G9 cH Mk Ci;subst G9;subst cH;subst Mk;subst Ci;dsimp only[Xb,SQ,VT,List.cons_append,IC];have HRR:=Zh G';have Yc:=Zh Y7;have hob2:=(Y7.block _ (ZY gI.o.op)).trans gI.o.op;have hob3:=((Z' w2 (.cells (Jx D.kd D.pk ca cc gN gP pa pc D.ds ia D.il.length ic) 84)).block _ (ZY hob2)).trans hob2;have o0:(w2.alloc (.cells (Jx D.kd D.pk ca cc gN gP pa pc D.ds ia D.il.length ic) 84)).cell? ⟨ob,0,none⟩=some (.int .i64 kd):=(Zc hob3 0 rfl);clear LQ G' Y7 hob2 hob3)
   have K7:=Z9 w2 (.cells (Jx D.kd D.pk ca cc gN gP pa pc D.ds ia D.il.length ic) 84);have U5:Hid (Below w1 w1 (w2.alloc (.cells (Jx D.kd D.pk ca cc gN gP pa pc D.ds ia D.il.length ic) 84))):=ZA Yc.o (Zq _) _;have di:=Zh (gI.o.below U5.o);have PD:Hid (Below w1 w1 ((w2.alloc (.cells (Jx D.kd D.pk ca cc gN gP pa pc D.ds ia D.il.length ic) 84)).setRow w2 (Qj 0 false 0 0 0 0 none 0 0 false 0 none 0 0 none 0 0 0 0 false false 0 none 0 0))):=Z0 U5.o Yc.o.size _;have HM5:=Zh (gI.o.below PD.o);have HXR:=Zh (HRR.o.below (Z' w2 (.cells (Jx D.kd D.pk ca cc gN gP pa pc D.ds ia D.il.length ic) 84)))
   have hNE:∀g,(Value.slice ea E.length ec).ownBlock=some g→g≠w2.heap.size:=fun g hg=>by
    obtain⟨cur,hc⟩:=V7 gI.o.st.Az g hg;have h1:=ZY hc;have h2:=Yc.o.size;omega
   have hobe:ob≠w2.heap.size:=by have h1:=ZY gI.o.op;have h2:=Yc.o.size;omega
   clear CS Yc HRR U5 PD o6;generalize hW4:(w2.alloc (.cells (Jx D.kd D.pk ca cc gN gP pa pc D.ds ia D.il.length ic) 84))=w4 at *;generalize w2.heap.size=eb at *;clear hW4;go_cut [] (fun wx=>∃x:zR,x.e=DY ⟨kd,p,s,q,nm,ss⟩ bs∧GU wx x∧wx.heap[eb]?=some (.cells (Xb x).toArray 84 (0,0))∧MS w wx k b ob (Qa kd p s q (str nm) sa ss.length sc ba bl bc) (Qx (some ⟨g',off',none⟩) L.length vc (.slice aa A.length ac) (.slice ea E.length ec) (.slice la LS.length lc) c.bad c.XE c.unknown c.refused 0 0 0 0 (some ⟨b,0,none⟩)) (.slice aa A.length ac) A (.slice ea E.length ec) E (.slice la LS.length lc) LS T)
   case first=>
    by_cases hk:kd=1
    ·have e1:(kd !=1)=false:=by rw[hk];rfl
     have hx:(⟨D,.slice ca D.pk.Vs.length cc,.slice gN D.pk.ext.length gP,.slice pa D.pk.Zz.length pc,.slice ia D.il.length ic⟩:zR).e=DY ⟨kd,p,s,q,nm,ss⟩ bs:=by rw[cX.o];exact(ZU hk).symm
     have HHX:=Zh hx;have gK:=Zh K7;clear hx hk K7;go_wp2_with fail
     go_meet;exact⟨_,HHX.o,HXR.o,gK.o,di.o⟩
    ·have e1:(kd !=1)=true:=by rw[Rs];exact hk
     have hx:(Ev.none)=DY ⟨kd,p,s,q,nm,ss⟩ bs:=by rw[cX.o];exact(Z3 hk).symm
     have HHX:=Zh hx;clear hx hk;go_wp2_with (first|with_reducible refine Zs K7 ?_)
     go_meet;exact⟨⟨.none,.slice none 0 0,.slice none 0 0,.slice none 0 0,.slice none 0 0⟩,HHX.o,⟨Vp.nil _,YB.nil _⟩,setRow_heap _ _ _ _ _ _ K7,HM5.o⟩
   case rest=>
    obtain⟨w5,rfl⟩:∃W:World,W=wc:=⟨_,rfl⟩;obtain⟨x,hxe,hxr,yh,S7⟩:=hcut;have HXE:=Zh hxe;have HXR5:=Zh hxr;have HM5b:=Zh S7;clear di HM5 HXR K7 o0 hxe cX;go_upto_region 9 with fail
    go_cut [] (fun wx=>∃(na:Option Addr) (nc:Nat),MS w wx k b ob (Qa kd p s q (str nm) sa ss.length sc ba bl bc) (Qx (some ⟨g',off',none⟩) L.length vc (.slice aa A.length ac) (.slice na (E.length+1) nc) (.slice la LS.length lc) c.bad c.XE c.unknown c.refused 0 0 0 0 (some ⟨b,0,none⟩)) (.slice aa A.length ac) A (.slice na (E.length+1) nc) (E++[x]) (.slice la LS.length lc) LS T)
    case first=>
     have nQ:=Zh (S7.below (YE _ _).drew);have AZ:=((YE w5 w5).drew.block _ (ZY yh)).trans yh;have HXRd:=Zh (hxr.below (YE _ _).drew);have Zv:Hid (∀w':World,w'.heap[k]?=some (.cells (Qx (some ⟨g',off',none⟩) L.length vc (.slice aa A.length ac) (.slice ea E.length ec) (.slice la LS.length lc) c.bad c.XE c.unknown c.refused 0 0 0 0 (some ⟨b,0,none⟩)) 44 (0,0))→w'.heap[eb]?=some (.cells (Xb x).toArray 84 (0,0))→w'.cell? ⟨k,2,none⟩=some (.slice ea E.length ec)∧w'.heap[eb]?=some (.cells (Xb x).toArray 84 (0,0))):=fun w' h1 h2=>⟨Zc h1 2 rfl,h2⟩
     clear S7 hxr;refine RX ?_;refine Zj (d:=7) (S:=(fun w'=>w'.cell? ⟨k,2,none⟩=some (.slice ea E.length ec)∧w'.heap[eb]?=some (.cells (Xb x).toArray 84 (0,0)))) Zk ?_ (fun XY=>?_)
     ·exact Zv.o _ nQ.o.st.Y8 AZ
     refine YP 0 (h:=YP 1 (h:=YP 2 (h:=YP 3 (h:=YK 4 (h:=?_)))));refine By.tk 5 ?_ rfl ?_ <| ?_
     rotate_left
     ·intro wS Ud;(try dsimp only at Ud)
      refine VG 84 (.tmp 7) ?_ eb ?_ 84 (Xb x).toArray (0,0) _ Ud.2 underlying84 rfl Zk;all_goals rfl
     try simp only[pt]
     refine YR 6 (h:=fun K hK=>?_);refine W9 Zr jU (.tmp 45) Zr (Xb x).toArray Zr Zr Zd ?_;have dn:=Zh (nQ.o.below (Z' w5.drew (.cells (Xb x).toArray 84)));have HXR6:=Zh (HXRd.o.below (Z' w5.drew (.cells (Xb x).toArray 84)));have lB:=((Z' w5.drew (.cells (Xb x).toArray 84)).block _ (ZY AZ)).trans AZ;refine YY hK _ _ ?_ (fun XC=>?_)
     ·first|exact Zv.o _ dn.o.st.Y8 lB|exact Zv.o _ nQ.o.st.Y8 AZ
     clear hK K;try simp only[pt]
     refine YR 7 (h:=fun K hK=>?_);refine Y9 Zr (.tmp 44) (.tmp 46) 38 Zr w jU (.slice ea E.length ec) E.length (E.flatMap Xb) Zr dn.o.st.Az (.slice (some ⟨w5.drew.heap.size,0,none⟩) 1 1) 1 ([x].flatMap Xb) Zr (Yn _ _ 1 _ ([x].flatMap Xb) Zd rfl) rfl (UT (l:=[x]) fun y hy=>by rw[K4.1 hy];exact eN HXRd.o) Zo Zo ?_ ?_
     ·exact dn.o.Za.size
     intro v' w6 wJ HG;have M7:Hid (w6.ownsRow w 84 17 v' (E++[x]).length ((E++[x]).flatMap Xb)):=(by have h:=wJ.o;rw[UC,O7];exact h);obtain⟨na,nc,Na,-⟩:=Row.Z4 M7.o;subst Na;have EL:=Zh (dn.o.j0 HG.o HXR6.o M7.o);have c2:w6.cell? ⟨k,2,none⟩=some (.slice ea E.length ec):=Zc EL.o.st.Y8 2 rfl;have f2:w6.frozen? ⟨k,2,none⟩=false:=ZP EL.o.st.Y8 2;refine Ye hK _ _ Zk ?_;clear hK K;try simp only[pt]
     refine YP 8 (h:=YP 9 (h:=?_));refine YR 10 (h:=fun K hK=>?_);go_simp;refine Ye hK _ _ Zk ?_;clear hK K;try simp only[pt]
     refine Yt Zk ?_ _;refine QP ?_;have h8:=EL.o.F_ 2 (.slice na (E++[x]).length nc);have nC:(E++[x]).length=E.length+1:=by simp
     rw[nC]at h8;have HM8:=Zh h8;clear h8;go_wp2_with fail
     go_meet;exact⟨na,nc,HM8.o⟩
    case rest=>
     obtain⟨w6,rfl⟩:∃W:World,W=wc:=⟨_,rfl⟩;obtain⟨na,nc,D6⟩:=hcut;have dn:=Zh D6;clear HM5b HXR5 S7 hxr yh hNE hobe;obtain⟨pv,sv,uv,cA,Xy⟩:=D6.ref.Vm;obtain⟨ua,uc,huv⟩:=Row.form Xy.ZX;subst huv;have HWAS:=Zh Xy.ZX;have b2:w6.cell? ⟨b,2,none⟩=some (.slice ua T.ZX.length uc):=Zc cA 2 rfl;have k12:w6.cell? ⟨k,12,none⟩=some (.pointer (some ⟨b,0,none⟩)):=Zc D6.st.Y8 12 rfl;have Cm:=D6.op;have CA:=Zh (oN k b (some ⟨g',off',none⟩) L.length vc (.slice aa A.length ac) (.slice na (E.length+1) nc) (.slice la LS.length lc) c T R ep ⟨kd,p,s,q,nm,ss⟩ sa ba sc bl bc bs (.slice none 0 0) w6 D6.st.Y8 D6.ref L6.o HINV.o HSLM.o (HT.o _ D6.Za) UD (LW.below D6.Za) (XG.below py D6.Za) hbd2.1 Zo hcb);obtain⟨hst1,hst2,hst3⟩:=Ad.o (.slice none 0 0);have HLV2:=Zh (fun T' h=>iH.o T' (.slice none 0 0) h);have wK:=Zh (Pg.o (.slice none 0 0));have htl:=MX L j;clear cA Xy D6 Ad iH Pg;generalize take R ep ⟨kd,p,s,q,nm,ss⟩ bs (.slice none 0 0)=X at *;obtain⟨⟨tk,R2⟩,ep2⟩:=X;dsimp only at hst1 hst2 hst3 HLV2 wK;subst hst1;generalize Z6 L j=tk at *;have dF:=Zh hst2;have n7:=Zh hst3;have vI:=Zh hbd2;clear hst2 hst3;unfold TV at CA;dsimp only at CA;have O9:tk.XR=⟨tk.XR.kind,tk.XR.source,tk.XR.Nt,tk.XR.err⟩:=rfl;have JO:=Zh O9;clear O9;generalize tk.XR.kind=ak at *;generalize tk.XR.source=as' at *;generalize tk.XR.Nt=ae at *;generalize tk.XR.err=ar at *;generalize tk.unknown=tu at *
     go_upto_if 63 with(first|with_reducible refine Zl Cm underlying32 ?_|(go_at_call 42;refine CA.o.mono ?_;rintro e w7 ⟨rfl,Ck,⟨T2,fO,hs7⟩,fE⟩;have EL:=Zh (dn.o.room Ck fO fE);have nj:=Zh hs7;have a0:(w7.alloc (.cells (Qb ak as' ae ar) 35)).cell? ⟨w7,0,none⟩=some (.int .i64 ak):=(by rw[cell_of (Z9 w7 (.cells (Qb ak as' ae ar) 35)) 0];rfl);have HW7:=Zh (Row.fr HWAS.o fE (Zq _) (lV (UH (ts:=[105]) dn.o.st.Y8 Zd) (fun e he j' c' fr' hj' Kf=>by obtain⟨_,_,_,cA,_⟩:=dn.o.ref.Vm;exact UH (ts:=[105]) cA Zd e he j' c' fr' hj' Kf) _ (K4.2 rfl)));clear Ck fO hs7 fE))
     clear CA dn HWAS Cm b2 k12;have Ry:=Z9 w7 (.cells (Qb ak as' ae ar) 35);have HM8:=Zh (EL.o.below (Z' w7 (.cells (Qb ak as' ae ar) 35)));have HW8:=Zh (Row.below HW7.o (Z' w7 (.cells (Qb ak as' ae ar) 35)))
     have hNA:∀g,(Value.slice aa A.length ac).ownBlock=some g→g≠w7.heap.size:=fun g hg=>by
      obtain⟨cur,hc⟩:=V7 EL.o.st.XR g hg;have h1:=ZY hc;omega
     clear EL HW7;generalize hW8:(w7.alloc (.cells (Qb ak as' ae ar) 35))=w8 at *;generalize w7.heap.size=ab at *;clear hW8;obtain⟨hlv1,hlv2⟩:=HLV2.o T2 nj.o;have HLV3:=Zh hlv1;have HLI3:=Zh hlv2;clear hlv1 hlv2 HLV2;go_cut [4] (fun s4 wx=>s4 = .int .i64 ep2∧wx=w8)
     case first=>
      rcases HEP.o with⟨h2,-,h3⟩|⟨h2,h3,-⟩
      ·have e1:(ak==2)=true:=by rw[beq_iff_eq];exact h2
       have e2:ep2=ep+1:=by rw[n7.o,h3,EPS.o]
       clear h2 h3;go_wp2_with fail
       go_meet;exact⟨by rw[e2],rfl⟩
      ·have e1:(ak==2)=false:=by rw[Wz];exact h2
       have e2:ep2=ep:=by rw[n7.o,h3,EPS.o]
       clear h2 h3;go_wp2_with fail
       go_meet;exact⟨by rw[e2],rfl⟩
     case rest=>
      obtain⟨rfl,hcw⟩:=hcut;replace hcw:=hcw.symm;subst hcw;go_upto_region 14 with fail
      have HAB:=Zh Ry;go_cut [] (fun wx=>∃(ma:Option Addr) (mc:Nat),MS w wx k b ob (Qa kd p s q (str nm) sa ss.length sc ba bl bc) (Qx (some ⟨g',off',none⟩) L.length vc (.slice ma (A.length+1) mc) (.slice na (E.length+1) nc) (.slice la LS.length lc) (c.add ak tu).bad (c.add ak tu).XE (c.add ak tu).unknown (c.add ak tu).refused 0 0 0 0 (some ⟨b,0,none⟩)) (.slice ma (A.length+1) mc) (A++[⟨ak,as',ae,ar⟩]) (.slice na (E.length+1) nc) (E++[x]) (.slice la LS.length lc) LS T2∧wx.heap[ab]?=some (.cells (Qb ak as' ae ar) 35 (0,0))∧Row wx 105 (.slice ua T.ZX.length uc) T.ZX.length (T.ZX.flatMap Zb))
      case first=>
       have nQ:=Zh (HM8.o.below (YE _ _).drew);have AZ:=((YE w8 w8).drew.block _ (ZY Ry)).trans Ry;have HWd:=Zh (Row.below HW8.o (YE w8 w8).drew);have Zv:Hid (∀w':World,w'.heap[k]?=some (.cells (Qx (some ⟨g',off',none⟩) L.length vc (.slice aa A.length ac) (.slice na (E.length+1) nc) (.slice la LS.length lc) (c.add ak tu).bad (c.add ak tu).XE (c.add ak tu).unknown (c.add ak tu).refused 0 0 0 0 (some ⟨b,0,none⟩)) 44 (0,0))→w'.heap[ab]?=some (.cells (Qb ak as' ae ar) 35 (0,0))→w'.cell? ⟨k,1,none⟩=some (.slice aa A.length ac)∧w'.heap[ab]?=some (.cells (Qb ak as' ae ar) 35 (0,0))):=fun w' h1 h2=>⟨Zc h1 1 rfl,h2⟩
       clear Ry;refine RX ?_;refine Zj (d:=7) (S:=(fun w'=>w'.cell? ⟨k,1,none⟩=some (.slice aa A.length ac)∧w'.heap[ab]?=some (.cells (Qb ak as' ae ar) 35 (0,0)))) Zk ?_ (fun XY=>?_)
       ·exact Zv.o _ nQ.o.st.Y8 AZ
       refine YP 0 (h:=YP 1 (h:=YP 2 (h:=YP 3 (h:=YK 4 (h:=?_)))));refine By.tk 5 ?_ rfl ?_ <| ?_
       rotate_left
       ·intro wS Ud;(try dsimp only at Ud)
        refine VG 35 (.tmp 10) ?_ ab ?_ 35 (Qb ak as' ae ar) (0,0) _ Ud.2 underlying35 rfl Zk;all_goals rfl
       try simp only[pt]
       refine YR 6 (h:=fun K hK=>?_);refine W9 Zr NB (.tmp 71) Zr (Qb ak as' ae ar) Zr Zr Zd ?_;have iK:=Zh (nQ.o.below (Z' w8.drew (.cells (Qb ak as' ae ar) 35)));have lB:=((Z' w8.drew (.cells (Qb ak as' ae ar) 35)).block _ (ZY AZ)).trans AZ;have HWs:=Zh (Row.below HWd.o (Z' w8.drew (.cells (Qb ak as' ae ar) 35)));refine YY hK _ _ ?_ (fun XC=>?_)
       ·first|exact Zv.o _ iK.o.st.Y8 lB|exact Zv.o _ nQ.o.st.Y8 AZ
       clear hK K;try simp only[pt]
       refine YR 7 (h:=fun K hK=>?_);refine Y9 Zr (.tmp 70) (.tmp 72) 37 Zr w NB (.slice aa A.length ac) A.length (A.flatMap VF) Zr iK.o.st.XR (.slice (some ⟨w8.drew.heap.size,0,none⟩) 1 1) 1 ([(⟨ak,as',ae,ar⟩:Et)].flatMap VF) Zr (Yn _ _ 1 _ ([(⟨ak,as',ae,ar⟩:Et)].flatMap VF) Zd rfl) rfl (UT fun y _=>Gw y) Zo Zo ?_ ?_
       ·exact iK.o.Za.size
       intro v' w9 wJ HG;have M7:Hid (w9.ownsRow w 35 4 v' (A++[(⟨ak,as',ae,ar⟩:Et)]).length ((A++[(⟨ak,as',ae,ar⟩:Et)]).flatMap VF)):=(by have h:=wJ.o;rw[UC,O7];exact h);obtain⟨ma,mc,Na,-⟩:=Row.Z4 M7.o;subst Na;have EL:=Zh (iK.o.B_ HG.o M7.o);have c1:w9.cell? ⟨k,1,none⟩=some (.slice aa A.length ac):=Zc EL.o.st.Y8 1 rfl;have f1:w9.frozen? ⟨k,1,none⟩=false:=ZP EL.o.st.Y8 1;have HAB9:=Zh ((HG.o.block _ (ZY lB) (fun e=>hNA _ e.symm rfl)).trans lB);have HW9:=Zh (Row.fr HWs.o (XN HG.o) (Zq _) (Y0 iK.o.st.XR Zd));refine Ye hK _ _ Zk ?_;clear hK K;try simp only[pt]
       refine YP 8 (h:=YP 9 (h:=?_));refine YR 10 (h:=fun K hK=>?_);go_simp;refine Ye hK _ _ Zk ?_;clear hK K;try simp only[pt]
       refine Yt Zk ?_ _;refine QP ?_;have h8:=EL.o.F_ 1 (.slice ma (A++[(⟨ak,as',ae,ar⟩:Et)]).length mc);have nC:(A++[(⟨ak,as',ae,ar⟩:Et)]).length=A.length+1:=by simp
       rw[nC]at h8;have HM9:=Zh h8;have hkab:ab≠k:=fun e=>by have h1:=EL.o.st.Y8;rw[←e,HAB9.o]at h1;injection h1 with h1;injection h1 with _ h1;exact absurd h1 Zd
       have HAB10:=Zh ((L8 w9 ⟨k,1,none⟩ (.slice ma (A.length+1) mc) ab hkab).trans HAB9.o);have Iu:=Zh (Row.fr HW9.o (Fr.setAt (Fr.refl w9 (· = k) w9) 1 (.slice ma (A.length+1) mc)) (Zq _) (UH (ts:=[105]) EL.o.st.Y8 Zd _ (K4.2 rfl)));clear h8;go_wp2_with fail
       go_meet;exact⟨ma,mc,HM9.o,HAB10.o,Iu.o⟩
      case rest=>
       obtain⟨TL,rfl⟩:∃W:World,W=wc:=⟨_,rfl⟩;obtain⟨ma,mc,Cl,rL,hw10⟩:=hcut;have HM10:=Zh Cl;have CO:=Zh (l_ w k b (some ⟨g',off',none⟩) L.length vc (.slice ma (A.length+1) mc) (.slice na (E.length+1) nc) (.slice la LS.length lc) (.slice ua T.ZX.length uc) _ _ _ _ LS T2 T.ZX (j:Int) TL Cl.st.Y8 Cl.ref Cl.st.P6 hw10);clear HM8 HW8 Ry HAB hNA hw10;go_upto_region 16 with(go_at_call 43;refine CO.o.mono ?_;rintro e Gl ⟨rfl,ho11,hf11⟩;have wI:=Zh (HM10.o.newL hf11 ho11);have hab11:=(hf11.block _ (ZY rL) (fun e=>Y0 Cl.st.P6 Zd _ _ _ e rL)).trans rL;clear ho11 hf11)
       clear CO HM10 Cl rL;have a0b:Gl.cell? ⟨ab,0,none⟩=some (.int .i64 ak):=Zc hab11 0 rfl;have Cm:=wI.o.op;have o0:Gl.cell? ⟨ob,0,none⟩=some (.int .i64 kd):=Zc Cm 0 rfl;have ng:Hid (TD L.length j T T2 ak ⟨kd,p,s,q,nm,ss⟩ LS=Rh L.length j T2 T.ZX LS++if ak=2∧kd=6 then[⟨p,s,j,L.length⟩]else[]):=rfl;have HOL:=Zh (Mm L.length j T2 T.ZX LS)
       have iB:Hid (∀(w':World) (A5:Value),MS w w' k b ob (Qa kd p s q (str nm) sa ss.length sc ba bl bc) (Qx (some ⟨g',off',none⟩) L.length vc (.slice ma (A.length+1) mc) (.slice na (E.length+1) nc) A5 (c.add ak tu).bad (c.add ak tu).XE (c.add ak tu).unknown (c.add ak tu).refused 0 0 0 0 (some ⟨b,0,none⟩)) (.slice ma (A.length+1) mc) (A++[⟨ak,as',ae,ar⟩]) (.slice na (E.length+1) nc) (E++[x]) A5 (TD L.length j T T2 ak ⟨kd,p,s,q,nm,ss⟩ LS) T2→SS w w' k b (some ⟨g',off',none⟩) vc (.slice ma (A.length+1) mc) (.slice na (E.length+1) nc) A5 L (j+1) (E++[x]) T2 R2 ep2):=fun w' A5 h=>by
        have Rt:(c.add ak tu).Below (8001*((j+1:Nat):Int)):=by
         have e8:8001*((j+1:Nat):Int)=8001*(j:Int)+8001:=by omega
         rw[e8];exact oM au.o ak wK.o.2.2.1 wK.o.2.2.2.1
        have H_:=h.st;refine⟨?_,h.ref,h.Za,h.kk,h.bb,?_,nj.o,wK.o.1,wK.o.2.1,dF.o,n7.o,by rw[HLS.o];exact HLI3.o,by rw[HCN.o];exact Rt,HO.o.below h.Za⟩
        ·rw[HCN.o,HAS.o,HLS.o,HLV3.o,JO.o];exact H_
        ·rw[Ng,HEE.o,HES.o,BC.o,←HXE.o];rfl
       generalize Rh L.length j T2 T.ZX LS=OV at *;by_cases hc:ak=2∧kd=6
       rotate_left
       ·have hRL:TD L.length j T T2 ak ⟨kd,p,s,q,nm,ss⟩ LS=OV:=by rw[ng.o,Z3 hc,rC]
        rw[hRL]at iB;have HFN:=Zh (iB.o Gl _ wI.o);clear ng hRL iB;have Tx:ak≠2∨(ak=2∧kd≠6):=by by_cases a:ak=2 <;> by_cases b:kd=6 <;> simp[a,b];exact hc ⟨a,b⟩
        clear hc;rcases Tx with h|⟨rfl,h⟩
        case' inl=>have e1:(ak==2)=false:=by rw[Wz];exact h
        case' inr=>have e1:(kd==6)=false:=by rw[Wz];exact h
        all_goals
         clear h;go_wp2_with fail
         go_roundw
         case rel=>exact⟨j+1,_,_,_,_,_,_,ep2,Zo,Zn,rfl,by have h:=HFN.o;rw[iw.o]at h;exact h⟩
         case measure=>simp[intOf];omega
       obtain⟨rfl,rfl⟩:=hc;have hRL:TD L.length j T T2 2 ⟨6,p,s,q,nm,ss⟩ LS=OV++[⟨p,s,j,L.length⟩]:=by rw[ng.o,ZU ⟨rfl,rfl⟩]
       rw[hRL]at iB;clear ng hRL;have hOVb:OV.length≤10000000:=by rw[HOL.o];omega
       go_upto_region 17 with fail
       have nQ:=Zh (wI.o.below (YE _ _).drew);have Zv:Hid (∀w':World,w'.heap[k]?=some (.cells (Qx (some ⟨g',off',none⟩) L.length vc (.slice ma (A.length+1) mc) (.slice na (E.length+1) nc) (.slice la LS.length lc) (c.add 2 tu).bad (c.add 2 tu).XE (c.add 2 tu).unknown (c.add 2 tu).refused 0 0 0 0 (some ⟨b,0,none⟩)) 44 (0,0))→w'.heap[ob]?=some (.cells (Qa 6 p s q (str nm) sa ss.length sc ba bl bc) 32 (0,0))→w'.cell? ⟨k,3,none⟩=some (.slice la LS.length lc)∧w'.cell? ⟨ob,1,none⟩=some (.int .i64 p)∧w'.cell? ⟨ob,2,none⟩=some (.int .i64 s)∧w'.cell? ⟨k,0,none⟩=some (.slice (some ⟨g',off',none⟩) L.length vc)):=fun w' h1 h2=>⟨Zc h1 3 rfl,Zc h2 1 rfl,Zc h2 2 rfl,Zc h1 0 rfl⟩
       refine RX ?_;refine Zj (d:=17) (S:=(fun w'=>w'.cell? ⟨k,3,none⟩=some (.slice la LS.length lc)∧w'.cell? ⟨ob,1,none⟩=some (.int .i64 p)∧w'.cell? ⟨ob,2,none⟩=some (.int .i64 s)∧w'.cell? ⟨k,0,none⟩=some (.slice (some ⟨g',off',none⟩) L.length vc))) Zk ?_ (fun XY=>?_)
       ·exact Zv.o _ nQ.o.st.Y8 nQ.o.op
       refine YP 0 (h:=YP 1 (h:=YP 2 (h:=YP 3 (h:=YP 5 (h:=YP 7 (h:=YP 9 (h:=YP 10 (h:=YP 11 (h:=YP 12 (h:=YK 4 (h:=YK 6 (h:=YK 8 (h:=YK 13 (h:=YP 14 (h:=YP 15 (h:=?_))))))))))))))));refine YR 16 (h:=fun K hK=>?_);refine W9 Zr Mz (.tmp 103) Zr (Qb p s (j:Int) (L.length:Int)) Zr Zr Zd ?_;have iK:=Zh (nQ.o.below (Z' Gl.drew (.cells (Qb p s (j:Int) (L.length:Int)) 59)));refine YY hK _ _ ?_ (fun XC=>?_)
       ·first|exact Zv.o _ iK.o.st.Y8 iK.o.op|exact Zv.o _ nQ.o.st.Y8 nQ.o.op
       clear hK K;try simp only[pt]
       refine YR 17 (h:=fun K hK=>?_);refine Y9 Zr (.tmp 92) (.tmp 104) 39 Zr w Mz (.slice la LS.length lc) OV.length (OV.flatMap Z5) Zr iK.o.st.P6 (.slice (some ⟨Gl.drew.heap.size,0,none⟩) 1 1) 1 ([(⟨p,s,(j:Int),(L.length:Int)⟩:Zt)].flatMap Z5) Zr (Yn _ _ 1 _ ([(⟨p,s,(j:Int),(L.length:Int)⟩:Zt)].flatMap Z5) Zd rfl) rfl (UT fun y _=>FJ y) Zo Zo ?_ ?_
       ·exact iK.o.Za.size
       intro v' cK wJ HG;have M7:Hid (cK.ownsRow w 59 4 v' (OV++[(⟨p,s,(j:Int),(L.length:Int)⟩:Zt)]).length ((OV++[(⟨p,s,(j:Int),(L.length:Int)⟩:Zt)]).flatMap Z5)):=(by have h:=wJ.o;rw[UC,O7];exact h);obtain⟨da,dc,Na,-⟩:=Row.Z4 M7.o;subst Na;have EL:=Zh (iK.o.xO HG.o M7.o);have c3:cK.cell? ⟨k,3,none⟩=some (.slice la LS.length lc):=Zc EL.o.st.Y8 3 rfl;have f3:cK.frozen? ⟨k,3,none⟩=false:=ZP EL.o.st.Y8 3;refine Ye hK _ _ Zk ?_;clear hK K;try simp only[pt]
       refine YP 18 (h:=YP 19 (h:=?_));refine YR 20 (h:=fun K hK=>?_);go_simp;refine Ye hK _ _ Zk ?_;clear hK K;try simp only[pt]
       refine Yt Zk ?_ _;refine QP ?_;have h8:=EL.o.F_ 3 (.slice da (OV++[(⟨p,s,(j:Int),(L.length:Int)⟩:Zt)]).length dc);have nC:(OV++[(⟨p,s,(j:Int),(L.length:Int)⟩:Zt)]).length=OV.length+1:=by simp
       rw[nC]at h8;have HFN:=Zh (iB.o _ _ h8);clear h8 nC;go_wp2_with fail
       go_roundw
       case rel=>exact⟨j+1,_,_,_,_,_,_,ep2,Zo,Zn,rfl,by have h:=HFN.o;rw[iw.o]at h;exact h⟩
       case measure=>simp[intOf];omega
  ·have K6:j=L.length:=by omega
   subst K6;clear Sd;go_wp2;go_ret;exact⟨_,_,vs,vc,av,ev,lv,E,T,R,ep,rfl,rq.o⟩
def ik{w0 w:World}{k b:Nat}{vs:Option Addr}{vc:Nat}{av ev lv:Value}{L:List WR}{E:List zR}{T:ZK}{R:Room}{ep:Int}(hs:SS w0 w k b vs vc av ev lv L L.length E T R ep){j:Nat}(hj:j<L.length)(kd pr so:Int) :
  Calls prog 63 #[.pointer (some ⟨k,0,none⟩),.int .i64 (j:Int),.int .i64 kd,.int .i64 pr,.int .i64 so] w fun e w'=>e = .returned (.bool (Zf L j kd pr so))∧Below w w w':=by
 have xR:=Row.Z4 hs.st.XR;obtain⟨aa,ac,ha⟩:=Row.form xR;subst ha;rw[XF]at xR;obtain⟨g,o,e,V5⟩:=UI VF 4 (fun _=>rfl) (l:=XV L L.length) xR (by rw[XF];omega);subst e;have hA:(XV L L.length)[j]?=some (Z6 L j).XR:=by unfold XV;rw[List.getElem?_map,List.getElem?_range hj];rfl
 have hak:=V5 j _ hA 0 Zo;obtain⟨g',off',cap',e1,-,-,-,po⟩:=KG (fun y:WR=>XD y.x) 7 (fun _=>rfl) Zo hs.ops.row Zo;cases e1;have hy:L[j]?=some L[j]:=U' hj;have po:=po j _ hy;have hOA:opAt L j=L[j].x.o:=by unfold opAt;rw[hy]
 have HD:Hid (Zf L j kd pr so=((((Z6 L j).XR.kind==2)&&(L[j].x.o.kind==kd))&&(L[j].x.o.source==so)&&((pr==0)||(L[j].x.o.peer==pr)))):=by show _=_;unfold Zf;rw[hOA];rfl
 have c0:w.cell? ⟨k,0,none⟩=some (.slice (some ⟨g',off',none⟩) L.length vc):=Zc hs.st.Y8 0 rfl;have c1:w.cell? ⟨k,1,none⟩=some (.slice (some ⟨g,o,none⟩) (XV L L.length).length ac):=Zc hs.st.Y8 1 rfl;rw[XF]at c1;have hlk:=ZY hs.st.Y8;clear hA hy hOA xR V5 hs;generalize L[j]=y at *;generalize Zf L j kd pr so=D at *;generalize(Z6 L j).XR=A at *;obtain⟨⟨⟨k0,p,s,q,nm,ss⟩,sa,sc,ba,bl,bc⟩,bs⟩:=y;dsimp only at HD;have Nk:w.rangeAt g' (off'+j*7) (Qa k0 p s q (str nm) sa ss.length sc ba bl bc):=fun m v hm=>(po m (by have h:=(List.getElem?_eq_some_iff.1 hm).1;simpa using h)).trans hm
 have hak:w.cell? ⟨g,o+j*4+0,none⟩=some (.int .i64 A.kind):=hak;rw[bG]at hak;have Cj:(j:Int)<(L.length:Int):=PM.2 hj;have hz:=Z9 w (.cells (Qa 0 0 0 0 ⟨#[]⟩ none 0 0 none 0 0) 32);have SA:=setRow_heap _ _ _ (Qa k0 p s q (str nm) sa ss.length sc ba bl bc) _ _ hz;have HB:Hid (Below w w ((w.alloc (.cells (Qa 0 0 0 0 ⟨#[]⟩ none 0 0 none 0 0) 32)).setRow w (Qa k0 p s q (str nm) sa ss.length sc ba bl bc))):=Z0 (Z' w _) (Zq _) _;have Gt:=Zh (ZM c1 HB.o);have HAK:=Zh (ZM hak HB.o);clear po;go_enter func63,ntmps63;go_upto_region 2 with(first|with_reducible refine Zm Nk underlying32 ?_|with_reducible refine Zs hz ?_)
 have M9:=Zh SA;clear hz Nk c0 SA c1 hak hlk;generalize((w.alloc (.cells (Qa 0 0 0 0 ⟨#[]⟩ none 0 0 none 0 0) 32)).setRow w (Qa k0 p s q (str nm) sa ss.length sc ba bl bc))=w1 at *;have x0:w1.cell? ⟨w,0,none⟩=some (.int .i64 k0):=Zc M9.o 0 rfl;have x1:w1.cell? ⟨w,1,none⟩=some (.int .i64 p):=Zc M9.o 1 rfl;have x2:w1.cell? ⟨w,2,none⟩=some (.int .i64 s):=Zc M9.o 2 rfl;have c1:=Gt.o;have hak:=HAK.o;cases YV:(A.kind==2)with
 | false=>
  go_wp2;go_ret;exact⟨by rw[HD.o,YV];rfl,HB.o⟩
 | true=>
  cases Y7:(k0==kd)with
  | false=>
   go_wp2;go_ret;exact⟨by rw[HD.o,YV,Y7];rfl,HB.o⟩
  | true=>
   cases WM:(s==so)with
   | false=>
    go_wp2;go_ret;exact⟨by rw[HD.o,YV,Y7,WM];rfl,HB.o⟩
   | true=>
    cases S0:(pr==0)with
    | true=>
     go_wp2;go_ret;exact⟨by rw[HD.o,YV,Y7,WM,S0];rfl,HB.o⟩
    | false=>
     cases Nu:(p==pr)with
     | false=>
      go_wp2;go_ret;exact⟨by rw[HD.o,YV,Y7,WM,S0,Nu];rfl,HB.o⟩
     | true=>
      go_wp2;go_ret;exact⟨by rw[HD.o,YV,Y7,WM,S0,Nu];rfl,HB.o⟩
def Is_any{w0 w:World}{k b:Nat}{vs:Option Addr}{vc:Nat}{av ev lv:Value}{L:List WR}{E:List zR}{T:ZK}{R:Room}{ep:Int}(hs:SS w0 w k b vs vc av ev lv L L.length E T R ep)(hL:L.length≤256)(x:Zt)(at':Int) :
  Calls prog 57 (Qu (some ⟨k,0,none⟩) (Z5 x).toArray at') w fun e w'=>e = .returned (.bool (decide (x∈Zg L L.length L.length)&&there x at'))∧Below w w w':=by
 have gV:=Row.Z4 hs.st.P6;obtain⟨la,lc,hl⟩:=Row.form gV;subst hl;have hlb:(Zg L L.length L.length).length≤6144000:=PJ (RJ L L.length L.length) Zo;have c3:w.cell? ⟨k,3,none⟩=some (.slice la (Zg L L.length L.length).length lc):=Zc hs.st.Y8 3 rfl;have HLR:=Zh gV;have hlk:=ZY hs.st.Y8;clear hs gV;generalize Zg L L.length L.length=LS at *;obtain⟨xp,xs,xb,xf⟩:=x;dsimp only[Z5];have hz:=Z9 w (.cells (Qb xp xs xb xf) 59);have HB:Hid (Below w w (w.alloc (.cells (Qb xp xs xb xf) 59))):=Z' w _;have c3:=ZM c3 HB.o;have HZ:=Zh hz;clear hz;go_enter func57,ntmps57;go_wp2_with fail
 clear c3;have HLR1:=Zh (HLR.o.below HB.o);generalize(w.alloc (.cells (Qb xp xs xb xf) 59))=w1 at *;go_loopw [14] (fun s14 w'=>∃m:Nat,m≤LS.length∧s14 = .int .i64 (m:Int)∧Below w1 w1 w'∧⟨xp,xs,xb,xf⟩ ∉ LS.take m) (fun s14 _=>LS.length-(intOf s14).toNat)
 case atStart=>exact⟨0,Zo,rfl,YE _ _,by simp⟩
 case round=>
  obtain⟨m,hm,rfl,Xp,pH⟩:=hrel;have sK:=Zh Xp;have HNOT:=Zh pH;by_cases MG:m<LS.length
  ·obtain⟨gl,ol,el,V5⟩:=UI Z5 4 (fun _=>rfl) (HLR1.o.below Xp) Zo;subst el;have hx:LS[m]?=some LS[m]:=U' MG;have V5:=V5 m _ hx;have vM:=Zh MG;have HIN:=Zh (O6 MG);have JO:Hid (LS.take (m+1)=LS.take m++[LS[m]]):=by show _=_;rw[List.take_add_one,hx];rfl
   clear hx pH;generalize LS[m]=y at *;obtain⟨yp,ys,yb,yf⟩:=y;have Nk:wr.rangeAt gl (ol+m*4) (Qb yp ys yb yf):=fun m' v' hm'=>(V5 m' (by have h:=(List.getElem?_eq_some_iff.1 hm').1;simpa using h)).trans hm'
   have nD:(m:Int)<(LS.length:Int):=PM.2 MG;have hz:=Z9 wr (.cells (Qb 0 0 0 0) 59);have SA:=setRow_heap _ _ _ (Qb yp ys yb yf) _ _ hz;have U5:Hid (Below w1 w1 ((wr.alloc (.cells (Qb 0 0 0 0) 59)).setRow wr (Qb yp ys yb yf))):=Xp.trans ((Z0 (Z' wr _) (Zq _) _).mono Xp.size);clear V5 Xp;go_upto_region 4 with(first|with_reducible refine Zm Nk underlying59 ?_|with_reducible refine Zs hz ?_)
   clear hz Nk;have Ea:=(U5.o.block _ (ZY HZ.o)).trans HZ.o;generalize((wr.alloc (.cells (Qb 0 0 0 0) 59)).setRow wr (Qb yp ys yb yf))=w4 at *;by_cases he:(⟨yp,ys,yb,yf⟩:Zt)=⟨xp,xs,xb,xf⟩
   ·injection he with q1 q2 q3 q4
    subst q1;subst q2;subst q3;subst q4;have x2:w4.cell? ⟨w,2,none⟩=some (.int .i64 yb):=Zc Ea 2 rfl;have x3:w4.cell? ⟨w,3,none⟩=some (.int .i64 yf):=Zc Ea 3 rfl;cases h5:decide (yb<at')
    ·go_wp2_with (first|with_reducible refine Zl SA underlying59 ?_|with_reducible refine Zl Ea underlying59 ?_)
     go_ret;exact⟨by rw[WV HIN.o];unfold there;rw[h5];rfl,Tr HB U5.o⟩
    ·cases h6:decide (at'≤yf)
     all_goals
      go_wp2_with (first|with_reducible refine Zl SA underlying59 ?_|with_reducible refine Zl Ea underlying59 ?_)
      go_ret;exact⟨by rw[WV HIN.o];unfold there;rw[h5,h6];rfl,Tr HB U5.o⟩
   ·have hd:(yp==xp)=false∨((yp==xp)=true∧(ys==xs)=false)∨((yp==xp)=true∧(ys==xs)=true∧(yb==xb)=false)∨((yp==xp)=true∧(ys==xs)=true∧(yb==xb)=true∧(yf==xf)=false):=by
     simp only[Wz,beq_iff_eq];by_cases e1:yp=xp
     ·by_cases e2:ys=xs
      ·by_cases e3:yb=xb
       ·exact WG (WG (WG ⟨e1,e2,e3,fun e4=>he (by rw[e1,e2,e3,e4])⟩))
       ·exact WG (WG (WQ ⟨e1,e2,e3⟩))
      ·exact WG (WQ ⟨e1,e2⟩)
     ·exact WQ e1
    have HNE:=Zh he;clear he;rcases hd with h1|⟨h1,h2⟩|⟨h1,h2,h3⟩|⟨h1,h2,h3,h4⟩
    all_goals
     go_wp2_with (first|with_reducible refine Zl SA underlying59 ?_|with_reducible refine Zl Ea underlying59 ?_)
     go_roundw
     case rel=>exact⟨m+1,vM.o,Zn,U5.o,by rw[JO.o,EZ,K4];exact fun h=>h.elim HNOT.o (fun h=>HNE.o h.symm)⟩
     case measure=>have:=vM.o;simp[intOf];omega
  ·have kH:m=LS.length:=by omega
   clear Xp;subst kH;go_wp2;go_ret;exact⟨by have h:=HNOT.o;rw[nv]at h;rw[WH h];rfl,Tr HB sK.o⟩
def mE{L:List WR}{k:Nat}{y:WR}(hy:L[k]?=some y):Z6 L k=(take (Yf L k).1 (Yf L k).2 y.x.o y.b (.slice none 0 0)).1.1∧Yf L (k+1)=((take (Yf L k).1 (Yf L k).2 y.x.o y.b (.slice none 0 0)).1.2.bare,(take (Yf L k).1 (Yf L k).2 y.x.o y.b (.slice none 0 0)).2):=by
 constructor
 ·unfold Z6;rw[hy]
 ·conv=>lhs;unfold Yf
  rw[hy]
def lH{R:Room}(h:Inv R):Inv R.bare:=⟨h.P7,h.YZ,h.YL,h.apart,h.nameAt,h.keys⟩
def qL{R:Room}(h:Wc R):Wc R.bare:=⟨h.short⟩
def sy(L:List WR):∀k,Inv (Yf L k).1∧Wc (Yf L k).1
 | 0=>⟨S8,Uj⟩
 | k+1=>by
  have ih:=sy L k;cases hy:L[k]? with
  | none=>
   have e:Yf L (k+1)=Yf L k:=by
    conv=>lhs;unfold Yf
    rw[hy]
   rw[e];exact ih
  | some y=>
   rw[(mE hy).2];have h:=Bo ih.1 ih.2 (Yf L k).2 y.x.o y.b (.slice none 0 0);exact⟨lH h.1,qL h.2.1⟩
def Ends(R R':Room)(ts:List Yz):Prop:=Good (opens R) ts (opens R')∧∀t∈ts,t.kind≠1
def Begins(R R':Room)(o:Op)(ts:List Yz):Prop:=o.kind=6∧(∃t2:Yz,ts=[⟨1,o.peer,o.source,o.ZC,0⟩,t2]∧(t2.kind=6∨t2.kind=9))∧opens R (o.peer,o.source)=false∧opens R'=fun x=>decide (x=(o.peer,o.source))||opens R x
def qN{R:Room}(hI:Inv R)(hs:Wc R)(ep:Int)(o:Op)(b:List UInt8)(sv:Value):Ends R (take R ep o b sv).1.2 (take R ep o b sv).1.1.turns∨((take R ep o b sv).1.1.XR.kind=2∧Begins R (take R ep o b sv).1.2 o (take R ep o b sv).1.1.turns):=by
 have still:Ends R R []:=⟨Good.nil _,fun t h=>by cases h⟩;by_cases k1:o.kind=1
 ·have e:take R ep o b sv=YD R ep o.peer b:=by unfold take;rw[ZU k1]
  rw[e]
  left
  unfold YD;by_cases h1:(XX b).2≠0
  ·rw[ZU h1];exact still
  rw[Z3 h1];by_cases h2:(!Y5 R o.peer)=true
  ·rw[ZU h2];exact still
  rw[Z3 h2];cases hv:(XX b).1 with
  | none=>exact still
  | XS p d=>
   have e2:(VK R ep o.peer p d).turns=[]:=by unfold VK;split <;> rfl
   show Ends R R (VK R ep o.peer p d).turns;rw[e2];exact still
  | X4 l=>
   have V9:=u_ hv;exact NH o.peer l R hI hs V9
 ·have e:take R ep o b sv=if(Wq R o sv).2≠0 then((Ya 6 (Wq R o sv).2,R),ep)else((Uc (ep+1) [] (Wq R o sv).1.1 0,(Wq R o sv).1.2),ep+1):=by unfold take;rw[Z3 k1]
  rw[e];by_cases h1:(Wq R o sv).2≠0
  ·rw[ZU h1];exact WQ still
  rw[Z3 h1];have hg:=xJ hI o sv;by_cases k6:o.kind=6
  ·right
   have hd:Wq R o sv=(turns R o sv,0):=by
    unfold Wq at h1 ⊢;split
    ·next hx=>rw[ZU hx]at h1;exact absurd hx (by simpa using h1)
    ·rfl
   have ht:turns R o sv=begin R o:=by
    unfold turns;dsimp only;rw[Z3 Zo,Z3 Zo,Z3 Zo,Z3 Zo,ZU k6]
   rw[hd,ht]at hg ⊢;obtain⟨g1,g2⟩:=hg
   obtain⟨t2,ht2,AU⟩:∃t2:Yz,(begin R o).1=[⟨1,o.peer,o.source,o.ZC,0⟩,t2]∧(t2.kind=6∨t2.kind=9):=by
    unfold begin;dsimp only;split
    ·exact⟨_,rfl,WQ rfl⟩
    ·exact⟨_,rfl,WG rfl⟩
   dsimp only at g1 g2;rw[ht2]at g1 g2
   have hS:opens R (o.peer,o.source)=false:=by
    have:=g1.1;unfold oW at this;rw[ZU rfl]at this;have:=(UN _ _ |>.mp this).2;simpa[QT]using this
   have e2:opens (begin R o).2=fun x=>decide (x=(o.peer,o.source))||opens R x:=by
    exact bq
   exact⟨rfl,k6,⟨t2,ht2,AU⟩,hS,e2⟩
  ·left
   have hb:∀t∈(Wq R o sv).1.1,t.kind≠1:=by
    unfold Wq;split
    ·intro t ht;cases ht
    ·exact Im R o sv k6
   exact⟨hg,hb⟩
def FM(L:List WR)(n:Int){k:Nat}(hk:k<L.length)(hn:(k:Int)<n)(hl:LI n (opens (Yf L k).1) (Zg L n k)) :
  LI n (opens (Yf L (k+1)).1) (Zg L n (k+1)) ∧
  ((∃dead,Zg L n (k+1)=XB n k dead (Zg L n k))∨((Z6 L k).XR.kind=2∧(opAt L k).kind=6∧Zg L n (k+1)=Zg L n k++[⟨(opAt L k).peer,(opAt L k).source,k,n⟩])):=by
 have hy:L[k]?=some L[k]:=U' hk;obtain⟨e1,e2⟩:=mE hy;have e3:opAt L k=L[k].x.o:=by unfold opAt;rw[hy]
 obtain⟨hI,hs⟩:=sy L k;have V5:(k:Int)≠n:=by omega
 have ub:Zg L n (k+1)=W8 n k (Zg L n k) (Z6 L k).turns:=rfl;have ho:opens (Yf L (k+1)).1=opens (take (Yf L k).1 (Yf L k).2 L[k].x.o L[k].b (.slice none 0 0)).1.2:=by rw[e2];rfl
 rw[ho,ub,e1,e3];rcases qN hI hs (Yf L k).2 L[k].x.o L[k].b (.slice none 0 0)with⟨⟨g1,g2⟩,hb⟩|⟨ha,k6,⟨t2,ht,AU⟩,hS,h2⟩
 ·have h1:=QV V5 _ _ _ hl g1 hb;rw[g2]at h1;exact⟨h1.2,WQ ⟨_,h1.1⟩⟩
 ·rw[ht]
  have e5:W8 n k (Zg L n k) [⟨1,L[k].x.o.peer,L[k].x.o.source,L[k].x.o.ZC,0⟩,t2]=Zg L n k++[⟨L[k].x.o.peer,L[k].x.o.source,k,n⟩]:=by
   show Ym n k (Ym n k (Zg L n k) ⟨1,L[k].x.o.peer,L[k].x.o.source,L[k].x.o.ZC,0⟩) t2=_;have a1:Ym n k (Zg L n k) ⟨1,L[k].x.o.peer,L[k].x.o.source,L[k].x.o.ZC,0⟩=Zg L n k++[⟨L[k].x.o.peer,L[k].x.o.source,k,n⟩]:=rfl;rw[a1];unfold Ym;rw[Z3 Zo,Z3 Zo]
  rw[e5,h2];exact⟨hl.begin _ _ _ hS,WG ⟨ha,k6,rfl⟩⟩
def Cy(L:List WR):∀k,k≤L.length→LI L.length (opens (Yf L k).1) (Zg L L.length k)
 | 0,_=>by
  have e:opens (Yf L 0).1=fun _=>false:=MP
  rw[e];exact LI.nil _
 | k+1,hk=>(FM L L.length Zo Zo (Cy L k Zo)).1
def NQ(L:List WR):∀k,k≤L.length→∀z∈Zg L L.length k,1≤z.peer∧z.Mx<z.fin∧z.Mx<k
 | 0,_,z,hz=>by cases hz
 | k+1,hk,z,hz=>by
  obtain⟨hLI,h⟩:=FM L L.length (k:=k) Zo Zo (Cy L k Zo);have ih:=NQ L k Zo;rcases h with⟨dead,e⟩|⟨-,-,e⟩
  ·rw[e]at hz;unfold XB at hz;obtain⟨y,hy,rfl⟩:=vS.1 hz;obtain⟨h1,h2,h3⟩:=ih y hy;split
   ·exact⟨h1,h3,by show y.Mx<_;omega⟩
   ·exact⟨h1,h2,Zo⟩
  ·rcases EZ.1 (e▸hz)with h1|h1
   ·obtain⟨h1,h2,h3⟩:=ih z h1;exact⟨h1,h2,Zo⟩
   ·rw[K4]at h1;have h2:=(hLI.iff (Wo z)).2 ⟨z,hz,rfl,by rw[h1]⟩;obtain⟨p,n,h3,h4,-⟩:=QI.1 h2;have h5:z.peer=p:=congrArg Prod.fst h3;rw[h1]at h5 ⊢;dsimp only at h5 ⊢;omega
def vR(w:World)(k:Nat)(L:List WR):Prop:=L.length≤256∧∃(w0:World) (b:Nat) (vs:Option Addr) (vc:Nat) (av ev lv:Value) (E:List zR) (T:ZK) (R:Room) (ep:Int),SS w0 w k b vs vc av ev lv L L.length E T R ep
structure an(w:World)(L:List WR)(k g o c g1 o1 c1 g2 o2 c2:Nat):Prop where
 c0:w.cell? ⟨k,0,none⟩=some (.slice (some ⟨g,o,none⟩) L.length c)
 c1:w.cell? ⟨k,1,none⟩=some (.slice (some ⟨g1,o1,none⟩) L.length c1)
 c2:w.cell? ⟨k,2,none⟩=some (.slice (some ⟨g2,o2,none⟩) L.length c2)
 lay:∀j,j<L.length→w.cell? ⟨g,o+j*7+3,none⟩=some (.int .i64 (opAt L j).ZC)
 kd:∀j,j<L.length→w.cell? ⟨g1,o1+j*4,none⟩=some (.int .i64 (Z6 L j).XR.kind)
 so:∀j,j<L.length→w.cell? ⟨g1,o1+j*4+1,none⟩=some (.int .i64 (Z6 L j).XR.source)
 ev:∀j,j<L.length→∃(ca:Option Addr) (cn cc:Nat) (ea:Option Addr) (en ec:Nat) (pa:Option Addr) (pn pc:Nat) (ia:Option Addr) (im ic:Nat),w.rangeAt g2 (o2+j*17) (SQ (VQ L j).kd (VQ L j).pk (VQ L j).ds (.slice ca cn cc) (.slice ea en ec) (.slice pa pn pc) (.slice ia im ic))
def qu{w w':World}{g o:Nat}{l:List Value}(h:w.rangeAt g o l)(hb:Below w w w'):w'.rangeAt g o l:=fun m v hm=>ZM (h m v hm) hb
section
variable {w w':World} {k:Nat} {L:List WR}
def an.below{g o c g1 o1 c1 g2 o2 c2:Nat}(h:an w L k g o c g1 o1 c1 g2 o2 c2)(hb:Below w w w'):an w' L k g o c g1 o1 c1 g2 o2 c2:=
 ⟨ZM h.c0 hb,ZM h.c1 hb,ZM h.c2 hb,fun j hj=>ZM (h.lay j hj) hb,fun j hj=>ZM (h.kd j hj) hb,fun j hj=>ZM (h.so j hj) hb,fun j hj=>by
  obtain⟨ca,cn,cc,ea,en,ec,pa,pn,pc,ia,im,ic,hr⟩:=h.ev j hj
  exact⟨ca,cn,cc,ea,en,ec,pa,pn,pc,ia,im,ic,qu hr hb⟩⟩
def vR.below(h:vR w k L)(hb:Below w w w'):vR w' k L:=by
 obtain⟨h0,w0,b,vs,vc,av,ev,lv,E,T,R,ep,h⟩:=h;exact⟨h0,w0,b,vs,vc,av,ev,lv,E,T,R,ep,h.below hb⟩
def vR.is(h:vR w k L)(x:Zt)(at':Int):Calls prog 57 (Qu (some ⟨k,0,none⟩) (Z5 x).toArray at') w fun e w'=>e = .returned (.bool (decide (x∈Zg L L.length L.length)&&there x at'))∧Below w w w':=by
 obtain⟨h0,w0,b,vs,vc,av,ev,lv,E,T,R,ep,h⟩:=h;exact Is_any h h0 x at'
def vR.done(h:vR w k L){j:Nat}(hj:j<L.length)(kd pr so:Int):Calls prog 63 #[.pointer (some ⟨k,0,none⟩),.int .i64 (j:Int),.int .i64 kd,.int .i64 pr,.int .i64 so] w fun e w'=>e = .returned (.bool (Zf L j kd pr so))∧Below w w w':=by
 obtain⟨h0,w0,b,vs,vc,av,ev,lv,E,T,R,ep,h⟩:=h;exact ik h hj kd pr so
def vR.cells(h:vR w k L)(h0:0<L.length):∃g o c g1 o1 c1 g2 o2 c2,an w L k g o c g1 o1 c1 g2 o2 c2:=by
 obtain⟨-,w0,b,vs,vc,av,ev,lv,E,T,R,ep,hs⟩:=h;have xR:=Row.Z4 hs.st.XR;obtain⟨aa,ac,ha⟩:=Row.form xR;subst ha;rw[XF]at xR;obtain⟨g1,o1,e1,hat1⟩:=UI VF 4 (fun _=>rfl) (l:=XV L L.length) xR (by rw[XF];omega);subst e1;obtain⟨g,o,c,e,-,-,-,V5⟩:=KG (fun y:WR=>XD y.x) 7 (fun _=>rfl) Zo hs.ops.row Zo;cases e;have hEl:E.length=L.length:=by have h2:=congrArg List.length hs.Az;rw[Te]at h2;rw[h2];unfold Fe;rw[Te,List.length_range]
 have hevr:=Row.Z4 hs.st.Az;obtain⟨ea,ec,he⟩:=Row.form hevr;subst he;obtain⟨g2,o2,e2,po⟩:=UI Xb 17 (fun _=>rfl) (l:=E) hevr Zo;subst e2;have hA:∀j,j<L.length→(XV L L.length)[j]?=some (Z6 L j).XR:=fun j hj=>by unfold XV;rw[List.getElem?_map,List.getElem?_range hj];rfl
 refine⟨g,o,vc,g1,o1,ac,g2,o2,ec,?_,?_,?_,fun j hj=>?_,fun j hj=>?_,fun j hj=>?_,fun j hj=>?_⟩
 ·rw[cell_of hs.st.Y8 0];rfl
 ·rw[cell_of hs.st.Y8 1,XF];rfl
 ·rw[cell_of hs.st.Y8 2,hEl];rfl
 ·have hy:L[j]?=some L[j]:=U' hj;rw[V5 j _ hy 3 Zo];unfold opAt;rw[hy];rfl
 ·exact hat1 j _ (hA j hj) 0 Zo
 ·exact hat1 j _ (hA j hj) 1 Zo
 ·have hx:E[j]?=some (E[j]'Zo):=U' Zo;have h3:(E.map (·.e))[j]?=some (E[j]'Zo).e:=by rw[List.getElem?_map,hx];rfl
  rw[hs.Az]at h3;unfold Fe at h3;rw[List.getElem?_map,List.getElem?_range hj]at h3;have h4:(E[j]'Zo).e=VQ L j:=(Option.some.inj h3).symm;have hr:=hs.st.each _ (O6 (l:=E) (n:=j) Zo);have hc:=po j _ hx;generalize(E[j]'Zo)=y at *;obtain⟨y,cv,xv,pv,iv⟩:=y;dsimp only at h4;subst h4;obtain⟨⟨ca,cc,G9⟩,⟨ea,ec,cH⟩,⟨pa,pc,Mk⟩⟩:=Vp.form hr.p;obtain⟨ia,ic,Ci⟩:=YB.form hr.i;dsimp only at G9 cH Mk Ci;subst G9;subst cH;subst Mk;subst Ci;exact⟨ca,_,cc,ea,_,ec,pa,_,pc,ia,_,ic,fun m v hm=>(hc m (by have h:=(List.getElem?_eq_some_iff.1 hm).1;exact h)).trans hm⟩
end
section
variable {w:World} {V k:Nat} {ov av mv lv:Value} {L:List WR} {x:Zt} {wv cv qv:Value}
def Hm(h:VB w V k ov av mv lv L x wv cv qv){j:Nat}(hj:j<L.length) :
  Calls prog 88 (Qk (some ⟨V,0,none⟩) (j:Int)) w fun e w'=>e = .returned (.bool (YU L x j))∧Below w w w':=by
 obtain⟨g,o,c,rfl,Nk⟩:=rD h.XR hj;have v0:w.cell? ⟨V,0,none⟩=some (.pointer (some ⟨k,0,none⟩)):=Zc h.view 0 rfl;have b1:w.cell? ⟨k,1,none⟩=some (.slice (some ⟨g,o,none⟩) L.length c):=Zc h.book 1 rfl;have hVl:=ZY h.view;have HV:=Zh h.view;have HX:Hid (YU L x j=(Wk x j&&decide ((Z6 L j).XR.kind=1)&&decide ((Z6 L j).XR.source=x.source))):=rfl;have Cj:(j:Int)<(L.length:Int):=PM.2 hj;obtain⟨xp,xs,xb,xf⟩:=x;generalize YU L ⟨xp,xs,xb,xf⟩ j=X at *;generalize(Z6 L j).XR=A at *;obtain⟨ak,as',ae,ar⟩:=A;dsimp only at HX Nk HV;clear h;have hz:=Z9 w (.cells (Qb 0 0 0 0) 35);have Ia:=setRow_heap _ _ _ (Qb ak as' ae ar) _ _ hz;have HB:Hid (Below w w ((w.alloc (.cells (Qb 0 0 0 0) 35)).setRow w (Qb ak as' ae ar))):=Z0 (Z' w _) (Zq _) _;go_enter func88,ntmps88;go_upto_region 2 with(first|with_reducible refine Zm Nk underlying35 ?_|(with_reducible refine Zs (cells:=(Qb ak as' ae ar)) hz ?_))
 clear hz Nk v0 b1;have HVV:=Zh ((HB.o.block V hVl).trans HV.o);generalize((w.alloc (.cells (Qb 0 0 0 0) 35)).setRow w (Qb ak as' ae ar))=w5 at *;have y0:w5.cell? ⟨w,0,none⟩=some (.int .i64 ak):=Zc Ia 0 rfl;have y1:w5.cell? ⟨w,1,none⟩=some (.int .i64 as'):=Zc Ia 1 rfl;have z2:w5.cell? ⟨V,2,none⟩=some (.int .i64 xs):=Zc HVV.o 2 rfl;have CL:Hid (∀n,Calls prog 115 (Qk (some ⟨V,0,none⟩) (j:Int)) (w5.drewN n) fun e w'=>e = .returned (.bool (Wk ⟨xp,xs,xb,xf⟩ (j:Int)))∧w'=w5.drewN n):=fun n=>(Ob V xp xs xb xf wv cv qv _ (w5.drewN n) HVV.o (j:Int)).mono fun e w' ⟨a,b⟩=>⟨a,b.symm⟩
 generalize Wk ⟨xp,xs,xb,xf⟩ (j:Int)=l at *;clear Ia;cases l with
 | false=>
  exact bn
 | true=>
  by_cases h1:ak=1
  ·subst h1;exact bn
  ·have e1:(ak==1)=false:=by rw[Wz];exact h1
   go_quiet ((go_at_call 115;exact Calls.quiet_of_same (CL.o _)))
   have Yc:=Zh (below_drewN HB.o nq);clear CL;go_wp2_with fail
   go_ret;exact⟨by rw[HX.o,WH h1];rfl,Yc.o⟩
def Td(h:VB w V k ov av mv lv L x wv cv qv){j:Nat}(hj:j<L.length){s:VS}(hs:aK w wv cv qv j s) :
  Calls prog 89 (Qk (some ⟨V,0,none⟩) (j:Int)) w fun e w'=>e = .returned (.bool (Wx s (Z6 L j).WI))∧Below w w w':=by
 obtain⟨g,o,c,a1,n1,c1,a2,n2,c2,a3,n3,c3,rfl,hr⟩:=I1 h hj
 have Nk:w.rangeAt g (o+j*15+11) (Qd (Z6 L j).WI.ZC (Z6 L j).WI.key (Z6 L j).WI.start (Z6 L j).WI.frame):=Dl hr 11 (fun m v hm=>by
  have h:=(List.getElem?_eq_some_iff.1 hm).1;have h:m<4:=by simpa using h
  rcases m with _|_|_|_|m
  all_goals first|exact hm|omega)
 obtain⟨⟨g1,o1,m1,d1,rfl,l1,e1⟩,⟨g2,o2,m2,d2,rfl,l2,e2⟩,⟨g3,o3,m3,d3,rfl,l3,e3⟩⟩:=hs;have v0:w.cell? ⟨V,0,none⟩=some (.pointer (some ⟨k,0,none⟩)):=Zc h.view 0 rfl;have v5:w.cell? ⟨V,5,none⟩=some (.slice (some ⟨g1,o1,none⟩) m1 d1):=Zc h.view 5 rfl;have v6:w.cell? ⟨V,6,none⟩=some (.slice (some ⟨g2,o2,none⟩) m2 d2):=Zc h.view 6 rfl;have v7:w.cell? ⟨V,7,none⟩=some (.slice (some ⟨g3,o3,none⟩) m3 d3):=Zc h.view 7 rfl;have b2:w.cell? ⟨k,2,none⟩=some (.slice (some ⟨g,o,none⟩) L.length c):=Zc h.book 2 rfl;have HX:Hid (Wx s (Z6 L j).WI=(!s.quiet&&(Z6 L j).WI.key&&(Z6 L j).WI.start&&decide ((Z6 L j).WI.ZC=s.want) && !decide ((Z6 L j).WI.ZC=s.cur))):=rfl;have Cj:(j:Int)<(L.length:Int):=PM.2 hj;have i1:(j:Int)<(m1:Int):=PM.2 l1;have i2:(j:Int)<(m2:Int):=PM.2 l2;have i3:(j:Int)<(m3:Int):=PM.2 l3;clear h hr;generalize Wx s (Z6 L j).WI=X at *;generalize(Z6 L j).WI=D at *;generalize s.quiet=q at *;generalize s.want=wt at *;generalize s.cur=cu at *;obtain⟨ly,ke,st,fm⟩:=D;dsimp only at HX Nk;have hz:=Z9 w (.cells (Qd 0 false false 0) 81);have Ia:=setRow_heap _ _ _ (Qd ly ke st fm) _ _ hz;have HB:Hid (Below w w ((w.alloc (.cells (Qd 0 false false 0) 81)).setRow w (Qd ly ke st fm))):=Z0 (Z' w _) (Zq _) _;have KC:Hid (∀(g o:Nat) (u:Value),w.cell? ⟨g,o,none⟩=some u→((w.alloc (.cells (Qd 0 false false 0) 81)).setRow w (Qd ly ke st fm)).cell? ⟨g,o,none⟩=some u):=fun g o u hc=>ZM hc HB.o
 go_enter func89,ntmps89;go_upto_region 2 with(first|with_reducible refine Zm Nk underlying81 ?_|(with_reducible refine Zs (cells:=(Qd ly ke st fm)) hz ?_))
 clear hz Nk v0 b2;replace v5:=KC.o _ _ _ v5;replace v6:=KC.o _ _ _ v6;replace v7:=KC.o _ _ _ v7;replace e1:=KC.o _ _ _ e1;replace e2:=KC.o _ _ _ e2;replace e3:=KC.o _ _ _ e3;clear KC;generalize((w.alloc (.cells (Qd 0 false false 0) 81)).setRow w (Qd ly ke st fm))=w5 at *;have y0:w5.cell? ⟨w,0,none⟩=some (.int .i64 ly):=Zc Ia 0 rfl;have y1:w5.cell? ⟨w,1,none⟩=some (.bool ke):=Zc Ia 1 rfl;have y2:w5.cell? ⟨w,2,none⟩=some (.bool st):=Zc Ia 2 rfl;clear Ia;cases q with
 | true=>
  exact jv
 | false=>
 cases ke with
 | false=>
  exact jv
 | true=>
 cases st with
 | false=>
  exact jv
 | true=>
 by_cases h1:ly=wt
 rotate_left
 ·have f1:(ly==wt)=false:=by rw[Wz];exact h1
  go_quiet (fail)
  have Yc:=Zh (below_drewN HB.o nq);go_wp2_with fail
  go_ret;exact⟨by rw[HX.o,WH h1];rfl,Yc.o⟩
 have f1:(ly==wt)=true:=by rw[beq_iff_eq];exact h1
 by_cases h2:ly=cu
 ·have f2:(ly !=cu)=false:=by rw[bne_eq_false_iff_eq];exact h2
  have H1:=Zh h1;have H2:=Zh h2;clear h1 h2;go_quiet (fail)
  have Yc:=Zh (below_drewN HB.o nq);go_wp2_with fail
  go_ret;exact⟨by rw[HX.o,WV H1.o,WV H2.o];rfl,Yc.o⟩
 have f2:(ly !=cu)=true:=by rw[Rs];exact h2
 have H1:=Zh h1;have H2:=Zh h2;clear h1 h2;go_quiet (fail)
 have Yc:=Zh (below_drewN HB.o nq);go_wp2_with fail
 go_ret;exact⟨by rw[HX.o,WV H1.o,WH H2.o];rfl,Yc.o⟩
end
def OP{w:World}{g o:Nat}{xs:List Value}(h:w.rangeAt g o xs)(m:Nat){v:Value}(hm:xs[m]?=some v):w.cell? ⟨g,o+m,none⟩=some v:=h m v hm
section
variable {w:World} {V k:Nat} {ov av mv lv:Value} {L:List WR} {x:Zt} {wv cv qv:Value}
def dM(h:VB w V k ov av mv lv L x wv cv qv){j:Nat}(hj:j<L.length) :
  Calls prog 143 (Qk (some ⟨k,0,none⟩) (j:Int)) w fun e w'=>e = .returned (.int .i64 (FQ L j))∧w=w':=by
 obtain⟨g,o,c,rfl,Nk⟩:=rD h.XR hj;obtain⟨g',o',c',nm,a1,n1,c1,a2,n2,c2,rfl,Cm⟩:=lZ h.ops hj;have b0:w.cell? ⟨k,0,none⟩=some (.slice (some ⟨g',o',none⟩) L.length c'):=Zc h.book 0 rfl;have b1:w.cell? ⟨k,1,none⟩=some (.slice (some ⟨g,o,none⟩) L.length c):=Zc h.book 1 rfl;have a0:=OP Nk 0 rfl;have p0:=OP Cm 0 rfl;rw[bG]at a0 p0;have HX:Hid (FQ L j=if(Z6 L j).XR.kind≠2∨(opAt L j).kind=1 then 0 else(opAt L j).kind):=rfl;have Cj:(j:Int)<(L.length:Int):=PM.2 hj;generalize FQ L j=X at *;generalize(Z6 L j).XR.kind=ak at *;generalize(opAt L j).kind=kd at *;clear h Nk Cm;by_cases h1:ak=2
 ·subst h1;by_cases h2:kd=1
  ·subst h2;have Vc:Hid (X=0):=by show _=_;rw[HX.o,ZU (WG rfl)]
   exact js
  ·have Vc:Hid (X=kd):=by show _=_;rw[HX.o,Z3 (by rintro(h|h);exact h rfl;exact h2 h)]
   have e2:(kd==1)=false:=by rw[Wz];exact h2
   exact js
 ·have Vc:Hid (X=0):=by show _=_;rw[HX.o,ZU (WQ h1)]
  have e1:(ak !=2)=true:=by rw[Rs];exact h1
  exact js
end
def XA(s:VS):List Value:=(Qf s.want s.cur s.ZV s.ZJ)
def JT(sv:VS)(kd q:Int)(w:World) :
  Calls prog 144 (Qs (XA sv).toArray kd q) w fun e w'=>e = .returned (.agg (XA (P9 sv kd q)).toArray)∧Below w w w':=by
 have HX:Hid (P9 sv kd q=if kd=12 then{sv with want:=q}else if kd=10 then{sv with ZV:=true,cur:= -1}else if kd=11 then{sv with ZV:=false}else sv):=rfl;generalize P9 sv kd q=X at *;obtain⟨a,c,pz,mz⟩:=sv;dsimp only[XA]at HX ⊢;by_cases h1:kd=12
 ·subst h1;have Vc:Hid (X=⟨q,c,pz,mz⟩):=by show _=_;rw[HX.o,ZU rfl]
  clear HX;go_enter func144,ntmps144;go_wp2_with fail
  refine Vr (v:= .agg (Qf q c pz mz)) ?_ rfl ?_
  ·exact results_cell_row Zr _ _ (w.heap.size+1) 202 (Qf q c pz mz) (0,0) _ Zr (ao w _ _).2 underlying202 rfl X6
  exact⟨by rw[Vc.o],ZA (Z' w _) (Zq _) _⟩
 by_cases h2:kd=10
 ·subst h2;have Vc:Hid (X=⟨a,-1,true,mz⟩):=by show _=_;rw[HX.o,Z3 Zd,ZU rfl]
  clear HX;go_enter func144,ntmps144;go_wp2_with fail
  refine Vr (v:= .agg (Qf a (-1) true mz)) ?_ rfl ?_
  ·exact results_cell_row Zr _ _ (w.heap.size+1) 202 (Qf a (-1) true mz) (0,0) _ Zr (ao w _ _).2 underlying202 rfl X6
  exact⟨by rw[Vc.o],ZA (Z' w _) (Zq _) _⟩
 by_cases h3:kd=11
 ·subst h3;have Vc:Hid (X=⟨a,c,false,mz⟩):=by show _=_;rw[HX.o,Z3 Zd,Z3 Zd,ZU rfl]
  clear HX;go_enter func144,ntmps144;go_wp2_with fail
  refine Vr (v:= .agg (Qf a c false mz)) ?_ rfl ?_
  ·exact results_cell_row Zr _ _ (w.heap.size+1) 202 (Qf a c false mz) (0,0) _ Zr (ao w _ _).2 underlying202 rfl X6
  exact⟨by rw[Vc.o],ZA (Z' w _) (Zq _) _⟩
 have Vc:Hid (X=⟨a,c,pz,mz⟩):=by show _=_;rw[HX.o,Z3 h1,Z3 h2,Z3 h3]
 have e1:(kd==12)=false:=by rw[Wz];exact h1
 have e2:(kd==10)=false:=by rw[Wz];exact h2
 have e3:(kd==11)=false:=by rw[Wz];exact h3
 clear HX;go_enter func144,ntmps144;go_wp2_with fail
 refine Vr (v:= .agg (Qf a c pz mz)) ?_ rfl ?_
 ·exact results_cell_row Zr _ _ (w.heap.size+1) 202 (Qf a c pz mz) (0,0) _ Zr (ao w _ _).2 underlying202 rfl X6
 exact⟨by rw[Vc.o],ZA (Z' w _) (Zq _) _⟩
def EX(V:Nat)(p s b f:Int)(wv cv qv bv:Value)(w:World)(h:w.heap[V]?=some (.cells #[bv,.int .i64 p,.int .i64 s,.int .i64 b,.int .i64 f,wv,cv,qv] 164 (0,0)))(at':Int) :
  Calls prog 92 (Qk (some ⟨V,0,none⟩) at') w fun e w'=>e = .returned (.bool (there ⟨p,s,b,f⟩ at'))∧w=w':=by
 have c3:w.cell? ⟨V,3,none⟩=some (.int .i64 b):=Zc h 3 rfl;have c4:w.cell? ⟨V,4,none⟩=some (.int .i64 f):=Zc h 4 rfl;have HX:Hid (there ⟨p,s,b,f⟩ at'=(decide (b<at')&&decide (at'≤f))):=rfl;generalize there ⟨p,s,b,f⟩ at'=X at *;clear h;by_cases h1:b<at'
 ·have d1:decide (b<at')=true:=WV h1;go_enter func92,ntmps92;go_wp2_with fail
  go_ret;exact⟨by rw[HX.o,d1];rfl,rfl⟩
 ·have d1:decide (b<at')=false:=WH h1;go_enter func92,ntmps92;go_wp2_with fail
  go_ret;exact⟨by rw[HX.o,d1];rfl,rfl⟩
def EY(w:World)(at':Int):Calls prog 92 (Qk none at') w fun e w'=>e = .returned (.bool false)∧w=w':=by
 go_enter func92,ntmps92;go_wp2_with fail
 go_ret;exact⟨rfl,rfl⟩
def ji(V k:Nat)(L:List WR)(x:Zt)(wv cv qv:Value)(w:World)(h:w.heap[V]?=some (.cells (Q8 (some ⟨k,0,none⟩) x.peer x.source x.Mx x.fin wv cv qv) 164 (0,0)))(hr:Nq w wv cv qv (Wn L x (L.length+1)))(h0:0≤x.Mx)(h1:x.fin≤L.length)(at':Int) :
  Calls prog 65 (Qk (some ⟨V,0,none⟩) at') w fun e w'=>e = .returned (.int .i64 (if there x at' then(ZL L x at'.toNat).cur else -1))∧w=w':=by
 obtain⟨p,s,b,f⟩:=x;dsimp only at h h0 h1;have CT:=Zh (EX V p s b f wv cv qv _ w h at');by_cases ht:there ⟨p,s,b,f⟩ at'=true
 ·rw[ZU ht];rw[ht]at CT
  have h2:0≤at'∧at'.toNat<L.length+1:=by
   unfold there at ht;simp only[UN,Su]at ht;omega
  obtain⟨g,o,n,c,hv,hj,hc⟩:=(hr.at (NZ L ⟨p,s,b,f⟩ h2.2)).cur;obtain⟨j,K6⟩:∃j:Nat,at'.toNat=j:=⟨_,rfl⟩;have V5:at'=(j:Int):=by omega
  rw[K6]at hj hc ⊢;subst V5;have Cj:(j:Int)<(n:Int):=PM.2 hj;have v5:w.cell? ⟨V,6,none⟩=some (.slice (some ⟨g,o,none⟩) n c):=by rw[cell_of h 6,←hv];rfl
  generalize(ZL L ⟨p,s,b,f⟩ j).cur=z at *;clear h hr ht hv h2 K6;go_enter func65,ntmps65;exact oI
 ·rw[Z3 ht];rw[Bool.not_eq_true]at ht;rw[ht]at CT;clear h hr ht;go_enter func65,ntmps65;exact oI
def jk(w:World)(at':Int):Calls prog 65 (Qk none at') w fun e w'=>e = .returned (.int .i64 (-1))∧w=w':=by
 have CT:=Zh (EY w at');go_enter func65,ntmps65;exact oI
def tB(V k:Nat)(L:List WR)(x:Zt)(wv cv qv:Value)(w:World)(h:w.heap[V]?=some (.cells (Q8 (some ⟨k,0,none⟩) x.peer x.source x.Mx x.fin wv cv qv) 164 (0,0)))(hr:Nq w wv cv qv (Wn L x (L.length+1)))(h0:0≤x.Mx)(h1:x.fin≤L.length)(at':Int) :
  Calls prog 64 (Qk (some ⟨V,0,none⟩) at') w fun e w'=>e = .returned (.bool (if there x at' then(ZL L x at'.toNat).quiet else true))∧w=w':=by
 obtain⟨p,s,b,f⟩:=x;dsimp only at h h0 h1;have CT:=Zh (EX V p s b f wv cv qv _ w h at');by_cases ht:there ⟨p,s,b,f⟩ at'=true
 ·rw[ZU ht];rw[ht]at CT
  have h2:0≤at'∧at'.toNat<L.length+1:=by
   unfold there at ht;simp only[UN,Su]at ht;omega
  obtain⟨g,o,n,c,hv,hj,hc⟩:=(hr.at (NZ L ⟨p,s,b,f⟩ h2.2)).quiet;obtain⟨j,K6⟩:∃j:Nat,at'.toNat=j:=⟨_,rfl⟩;have V5:at'=(j:Int):=by omega
  rw[K6]at hj hc ⊢;subst V5;have Cj:(j:Int)<(n:Int):=PM.2 hj;have v5:w.cell? ⟨V,7,none⟩=some (.slice (some ⟨g,o,none⟩) n c):=by rw[cell_of h 7,←hv];rfl
  generalize(ZL L ⟨p,s,b,f⟩ j).quiet=z at *;clear h hr ht hv h2 K6;go_enter func64,ntmps64;exact oI
 ·rw[Z3 ht];rw[Bool.not_eq_true]at ht;rw[ht]at CT;clear h hr ht;go_enter func64,ntmps64;exact oI
def tC(w:World)(at':Int):Calls prog 64 (Qk none at') w fun e w'=>e = .returned (.bool true)∧w=w':=by
 have CT:=Zh (EY w at');go_enter func64,ntmps64;exact oI
structure NX(w w':World)(oc:Array Value)(s:VS):Prop where
 Za:Below w w w'
 st:w'.heap[w.heap.size]?=some (.cells (XA s).toArray 202 (0,0))
 z:w'.heap[w.heap.size+1]?=some (.cells (Qf 0 0 false false) 202 (0,0))
 op:w'.heap[w.heap.size+2]?=some (.cells oc 32 (0,0))
def Gd(s:VS):(XA s).toArray.all (·.oneCell')=true:=by obtain⟨a,b,c,d⟩:=s;kernel_rfl
section
variable {w w1 w2:World} {oc:Array Value} {s:VS}
def NX.below(h:NX w w1 oc s)(hb:Below w1 w1 w2):NX w w2 oc s:=⟨h.Za.trans (hb.mono h.Za.size),(hb.block _ (ZY h.st)).trans h.st,(hb.block _ (ZY h.z)).trans h.z,(hb.block _ (ZY h.op)).trans h.op⟩
def NX.set(h:NX w w1 oc s)(j:Nat)(u:Value)(s':VS)(hs:(XA s).set j u=XA s'):NX w (w1.setCell ⟨w,j,none⟩ u) oc s':=by
 have h2:=Vu h.st j u;rw[List.setIfInBounds_toArray,hs]at h2;exact⟨((Fr.Z8 Pj h.Za).setCell (p:=⟨w,j,none⟩) (WQ (Zq _)) _).below,h2,(L8 w1 ⟨w,j,none⟩ u (w.heap.size+1) (by show w.heap.size+1≠w.heap.size;omega)).trans h.z,(L8 w1 ⟨w,j,none⟩ u (w.heap.size+2) (by show w.heap.size+2≠w.heap.size;omega)).trans h.op⟩
def NX.row(h:NX w w1 oc s)(s':VS):NX w (w1.setRow w (XA s').toArray) oc s':=
 ⟨Z0 h.Za (Zq _) _,setRow_heap _ _ _ _ _ _ h.st,by rw[setRow_other _ _ _ _ Zo];exact h.z,by rw[setRow_other _ _ _ _ Zo];exact h.op⟩
end
section
variable {w:World} {V k:Nat} {ov av mv lv:Value} {L:List WR} {x:Zt} {wv cv qv:Value}
def oC(h:VB w V k ov av mv lv L x wv cv qv){j:Nat}(hj:j<L.length){s:VS}(hs:aK w wv cv qv j s) :
  Calls prog 114 (Qu (some ⟨V,0,none⟩) (XA s).toArray (j:Int)) w fun e w'=>e = .returned (.agg (XA (UA L x s j)).toArray)∧Below w w w':=by
 obtain⟨g,o,c,nm,a1,n1,c1,a2,n2,c2,hov,Cm⟩:=lZ h.ops hj;obtain⟨g9,o9,c9,x1,y1,z1,x2,y2,z2,x3,y3,z3,kJ,hmed⟩:=I1 h hj;subst hov;subst kJ;have CO:=Zh (fun(w':World) (hb:Below w w w')=>dM (h.below hb) hj);have CP:=Zh (fun(w':World) (hb:Below w w w')=>Hm (h.below hb) hj);have CN:=Zh (fun(w':World) (hb:Below w w w')=>Td (h.below hb) hj (hs.below hb));have zI:Hid (∀w',Below w w w'→w'.heap[V]?=some (.cells (Q8 (some ⟨k,0,none⟩) x.peer x.source x.Mx x.fin wv cv qv) 164 (0,0))):=fun w' hb=>(hb.block _ (ZY h.view)).trans h.view
 have wm:Hid (∀w',Below w w w'→w'.heap[k]?=some (.cells #[.slice (some ⟨g,o,none⟩) L.length c,av,.slice (some ⟨g9,o9,none⟩) L.length c9,lv] 116 (0,0))):=fun w' hb=>(hb.block _ (ZY h.book)).trans h.book
 have HLY:Hid (∀w',Below w w w'→w'.cell? ⟨g9,o9+j*15+11,none⟩=some (.int .i64 (Z6 L j).WI.ZC)):=fun w' hb=>ZM (OP hmed 11 rfl) hb
 have v0:w.cell? ⟨V,0,none⟩=some (.pointer (some ⟨k,0,none⟩)):=Zc h.view 0 rfl;have b0:w.cell? ⟨k,0,none⟩=some (.slice (some ⟨g,o,none⟩) L.length c):=Zc h.book 0 rfl;have HX:Hid (UA L x s j=if YU L x j&&Wx s (Z6 L j).WI then{S4 L x s j with cur:=(Z6 L j).WI.ZC}else S4 L x s j):=rfl;have HC:Hid (S4 L x s j=if(opAt L j).source=x.source then(if(opAt L j).peer=x.peer∧Wk x j=true then P9 (YS s (FQ L j)) (FQ L j) (opAt L j).ZC else YS s (FQ L j))else s):=rfl;have Cj:(j:Int)<(L.length:Int):=PM.2 hj;have hVl:=ZY h.view;have Vz:=ZY h.book;clear h hs hmed;generalize UA L x s j=X at *;generalize S4 L x s j=C at *;generalize FQ L j=KD at *;generalize YU L x j=pk at *;generalize Wx s (Z6 L j).WI=opn at *;generalize(Z6 L j).WI.ZC=ly at *;obtain⟨xp,xs,xb,xf⟩:=x;generalize opAt L j=O at *;obtain⟨kd,p,sr,q,nm0,ss0⟩:=O;dsimp only at HC Cm zI;have hop2:((w.alloc (.cells (Qf s.want s.cur s.ZV s.ZJ) 202)).alloc (.cells (Qf 0 0 false false) 202)).rangeAt g (o+j*7) (Qa kd p sr q nm a1 n1 c1 a2 n2 c2):=fun m v hm=>ZM (Cm m v hm) (ZA (Z' w _) (Zq _) _)
 dsimp only[XA]
 have hz:((((w.alloc (.cells (Qf s.want s.cur s.ZV s.ZJ) 202)).alloc (.cells (Qf 0 0 false false) 202))).alloc (.cells IB 32)).heap[w.heap.size+2]?=some (.cells IB 32 (0,0)):=by
  have h:=Z9 ((w.alloc (.cells (Qf s.want s.cur s.ZV s.ZJ) 202)).alloc (.cells (Qf 0 0 false false) 202)) (.cells IB 32);rw[size_alloc,size_alloc]at h;exact h
 have vN:Hid (NX w (((((w.alloc (.cells (Qf s.want s.cur s.ZV s.ZJ) 202)).alloc (.cells (Qf 0 0 false false) 202))).alloc (.cells IB 32)).setRow (w.heap.size+2) (Qa kd p sr q nm a1 n1 c1 a2 n2 c2)) (Qa kd p sr q nm a1 n1 c1 a2 n2 c2) s):=by
  obtain⟨q1,q2⟩:=ao w (.cells (Qf s.want s.cur s.ZV s.ZJ) 202) (.cells (Qf 0 0 false false) 202);have q3:=Z' ((w.alloc (.cells (Qf s.want s.cur s.ZV s.ZJ) 202)).alloc (.cells (Qf 0 0 false false) 202)) (.cells IB 32);refine⟨Z0 (ZA (ZA (Z' w _) (Zq _) _) (Zq _) _) Zo _,?_,?_,setRow_heap _ _ _ _ _ _ hz⟩
  ·rw[setRow_other _ _ _ _ Zo];exact(q3.block _ (ZY q1)).trans q1
  ·rw[setRow_other _ _ _ _ Zo];exact(q3.block _ (ZY q2)).trans q2
 go_enter func114,ntmps114;go_upto_region 2 with(first|with_reducible refine Zm hop2 underlying32 ?_|(with_reducible refine Zs (cells:=(Qa kd p sr q nm a1 n1 c1 a2 n2 c2)) hz ?_))
 clear hz Cm hop2 v0 b0;generalize(((((w.alloc (.cells (Qf s.want s.cur s.ZV s.ZJ) 202)).alloc (.cells (Qf 0 0 false false) 202))).alloc (.cells IB 32)).setRow (w.heap.size+2) (Qa kd p sr q nm a1 n1 c1 a2 n2 c2))=w3 at *;have o2:w3.cell? ⟨w.heap.size+2,2,none⟩=some (.int .i64 sr):=Zc vN.o.op 2 rfl;have z2':w3.cell? ⟨V,2,none⟩=some (.int .i64 xs):=Zc (zI.o _ vN.o.Za) 2 rfl;go_quiet (fail)
 have K_:=Zh (vN.o.below (below_drewN (YE _ _) nq));clear vN o2 z2';generalize w3.drewN nq=w4 at *;go_upto_if 25 with fail
 go_cut [] (fun wx=>NX w wx (Qa kd p sr q nm a1 n1 c1 a2 n2 c2) C)
 case first=>
  by_cases hs:sr=xs
  rotate_left
  ·have f:(sr==xs)=false:=by rw[Wz];exact hs
   have Gt:Hid (C=s):=by show _=_;rw[HC.o,Z3 hs]
   go_wp2_with fail
   go_meet;rw[Gt.o];exact K_.o
  have Gt:Hid (C=if p=xp∧Wk ⟨xp,xs,xb,xf⟩ j=true then P9 (YS s KD) KD q else YS s KD):=by show _=_;rw[HC.o,ZU hs]
  have f:(sr==xs)=true:=by rw[beq_iff_eq];exact hs
  have ai:=Zh (CO.o _ K_.o.Za);have v0:w4.cell? ⟨V,0,none⟩=some (.pointer (some ⟨k,0,none⟩)):=Zc (zI.o _ K_.o.Za) 0 rfl;clear HC hs;have hKK:KD=4∨KD=9∨KD=8∨(KD≠4∧KD≠9∧KD≠8):=by omega
  rcases hKK with hK|hK|hK|⟨hK4,hK9,hK8⟩
  ·subst hK;have u1:=cell_of K_.o.st 1;have u3:=cell_of K_.o.st 3;have f1:=ZP K_.o.st 1;have f3:=ZP K_.o.st 3;simp only[XA,Ss,R_,Rw]at u1 u3;go_upto_region 9 with(go_at_call 143;refine ai.o.mono ?_;rintro e w' ⟨rfl,rfl⟩)
   have La:Hid (NX w (w4.setCell ⟨w,3,none⟩ (.bool false)) (Qa kd p sr q nm a1 n1 c1 a2 n2 c2) (YS s 4)):=K_.o.set 3 (.bool false) ⟨s.want,s.cur,s.ZV,false⟩ rfl;clear K_ u1 u3 f1 f3 v0 ai;generalize w4.setCell ⟨w,3,none⟩ (.bool false)=w5 at *;have p1:w5.cell? ⟨w.heap.size+2,1,none⟩=some (.int .i64 p):=Zc La.o.op 1 rfl;have x1':w5.cell? ⟨V,1,none⟩=some (.int .i64 xp):=Zc (zI.o _ La.o.Za) 1 rfl;by_cases hp:p=xp
   rotate_left
   ·have fp:(p==xp)=false:=by rw[Wz];exact hp
    have Gu:Hid (C=YS s 4):=by show _=_;rw[Gt.o,Z3 (fun h=>hp h.1)]
    go_quiet (fail)
    exact jy
   have fp:(p==xp)=true:=by rw[beq_iff_eq];exact hp
   have CL:Hid (∀n,Calls prog 115 (Qk (some ⟨V,0,none⟩) (j:Int)) (w5.drewN n) fun e w'=>e = .returned (.bool (Wk ⟨xp,xs,xb,xf⟩ (j:Int)))∧w'=w5.drewN n):=fun n=>(Ob V xp xs xb xf wv cv qv _ (w5.drewN n) (zI.o w5 La.o.Za) (j:Int)).mono fun e w' ⟨a,b⟩=>⟨a,b.symm⟩
   generalize Wk ⟨xp,xs,xb,xf⟩ (j:Int)=l at *;cases l with
   | false=>
    have Gu:Hid (C=YS s 4):=by show _=_;rw[Gt.o,Z3 (fun h=>absurd h.2 Zd)]
    exact dU
   | true=>
    have Gu:Hid (C=P9 (YS s 4) 4 q):=by show _=_;rw[Gt.o,ZU ⟨hp,rfl⟩]
    go_quiet ((go_at_call 115;exact Calls.quiet_of_same (CL.o _)))
    have G0:=Zh (La.o.below (below_drewN (YE _ _) nq));clear p1 x1' CL La;generalize w5.drewN nq=w6 at *
    have Zv:Hid (∀w',Below w6 w6 w'→w'.rangeAt w 0 (Qf (YS s 4).want (YS s 4).cur (YS s 4).ZV (YS s 4).ZJ)∧w'.cell? ⟨V,0,none⟩=some (.pointer (some ⟨k,0,none⟩))∧w'.cell? ⟨w.heap.size+2,3,none⟩=some (.int .i64 q)∧Below w6 w6 w'):=fun w' hb=>
     ⟨fun m v hm=>by rw[PA,cell_of (G0.o.below hb).st m];simpa[XA]using hm,Zc (zI.o _ (G0.o.below hb).Za) 0 rfl,by rw[cell_of (G0.o.below hb).op 3];rfl,hb⟩
    have COP:=Zh (CO.o _ (G0.o.below (YE _ _).drew).Za);have h_:=Zh (JT (YS s 4) 4 q w6.drew);go_upto_region 10 with fail
    refine RX ?_;refine Zj (d:=10) (S:=(fun w'=>w'.rangeAt w 0 (Qf (YS s 4).want (YS s 4).cur (YS s 4).ZV (YS s 4).ZJ)∧w'.cell? ⟨V,0,none⟩=some (.pointer (some ⟨k,0,none⟩))∧w'.cell? ⟨w.heap.size+2,3,none⟩=some (.int .i64 q)∧Below w6 w6 w')) X6 ?_ (fun _=>?_)
    ·exact Zv.o _ (YE _ _).drew
    refine YP 1 (h:=YP 2 (h:=YP 3 (h:=YP 5 (h:=YP 7 (h:=?_)))));refine tk 0 ?_ rfl ?_ <| ?_
    rotate_left
    ·intro wS Ud;(try dsimp only at Ud)
     refine(Xj 202 (.tmp 4) ?_ w 0 ?_ (Qf (YS s 4).want (YS s 4).cur (YS s 4).ZV (YS s 4).ZJ) _ Ud.1 underlying202 rfl X6).trans ?_;all_goals rfl
    try simp only[pt]
    refine YK 4 (h:=YK 8 (h:=?_));refine YR 6 (h:=fun K hK=>?_);go_simp;refine COP.o.mono ?_;rintro e w' ⟨rfl,rfl⟩;go_wp2_with fail
    refine YY hK _ _ ?_ (fun _=>?_)
    ·exact Zv.o _ wY
    clear hK K;try simp only[pt]
    refine YR 9 (h:=fun K hK=>?_);go_simp;refine h_.o.mono ?_;rintro e w7 ⟨rfl,LP⟩;have zS:=Zh ((YE w6 w6).drew.trans LP);clear LP;go_wp2_with fail
    refine YY hK _ _ ?_ (fun _=>?_)
    ·exact Zv.o _ wY
    clear hK K;try simp only[pt]
    refine YR 10 (h:=fun K hK=>?_);have aC:=Zh (G0.o.below zS.o);refine RU Zr 202 (.tmp 4) (.tmp 62) Zr Zr w (XA (P9 (YS s 4) 4 q)).toArray Zr Zr 202 _ aC.o.st X6 Zr (Gd _) ?_;exact d_
  ·subst hK;have u1:=cell_of K_.o.st 1;have u3:=cell_of K_.o.st 3;have f1:=ZP K_.o.st 1;have f3:=ZP K_.o.st 3;simp only[XA,Ss,R_,Rw]at u1 u3;go_upto_region 9 with(go_at_call 143;refine ai.o.mono ?_;rintro e w' ⟨rfl,rfl⟩)
   have La:Hid (NX w (w4.setCell ⟨w,3,none⟩ (.bool false)) (Qa kd p sr q nm a1 n1 c1 a2 n2 c2) (YS s 9)):=K_.o.set 3 (.bool false) ⟨s.want,s.cur,s.ZV,false⟩ rfl;clear K_ u1 u3 f1 f3 v0 ai;generalize w4.setCell ⟨w,3,none⟩ (.bool false)=w5 at *;have p1:w5.cell? ⟨w.heap.size+2,1,none⟩=some (.int .i64 p):=Zc La.o.op 1 rfl;have x1':w5.cell? ⟨V,1,none⟩=some (.int .i64 xp):=Zc (zI.o _ La.o.Za) 1 rfl;by_cases hp:p=xp
   rotate_left
   ·have fp:(p==xp)=false:=by rw[Wz];exact hp
    have Gu:Hid (C=YS s 9):=by show _=_;rw[Gt.o,Z3 (fun h=>hp h.1)]
    go_quiet (fail)
    exact jy
   have fp:(p==xp)=true:=by rw[beq_iff_eq];exact hp
   have CL:Hid (∀n,Calls prog 115 (Qk (some ⟨V,0,none⟩) (j:Int)) (w5.drewN n) fun e w'=>e = .returned (.bool (Wk ⟨xp,xs,xb,xf⟩ (j:Int)))∧w'=w5.drewN n):=fun n=>(Ob V xp xs xb xf wv cv qv _ (w5.drewN n) (zI.o w5 La.o.Za) (j:Int)).mono fun e w' ⟨a,b⟩=>⟨a,b.symm⟩
   generalize Wk ⟨xp,xs,xb,xf⟩ (j:Int)=l at *;cases l with
   | false=>
    have Gu:Hid (C=YS s 9):=by show _=_;rw[Gt.o,Z3 (fun h=>absurd h.2 Zd)]
    exact dU
   | true=>
    have Gu:Hid (C=P9 (YS s 9) 9 q):=by show _=_;rw[Gt.o,ZU ⟨hp,rfl⟩]
    go_quiet ((go_at_call 115;exact Calls.quiet_of_same (CL.o _)))
    have G0:=Zh (La.o.below (below_drewN (YE _ _) nq));clear p1 x1' CL La;generalize w5.drewN nq=w6 at *
    have Zv:Hid (∀w',Below w6 w6 w'→w'.rangeAt w 0 (Qf (YS s 9).want (YS s 9).cur (YS s 9).ZV (YS s 9).ZJ)∧w'.cell? ⟨V,0,none⟩=some (.pointer (some ⟨k,0,none⟩))∧w'.cell? ⟨w.heap.size+2,3,none⟩=some (.int .i64 q)∧Below w6 w6 w'):=fun w' hb=>
     ⟨fun m v hm=>by rw[PA,cell_of (G0.o.below hb).st m];simpa[XA]using hm,Zc (zI.o _ (G0.o.below hb).Za) 0 rfl,by rw[cell_of (G0.o.below hb).op 3];rfl,hb⟩
    have COP:=Zh (CO.o _ (G0.o.below (YE _ _).drew).Za);have h_:=Zh (JT (YS s 9) 9 q w6.drew);go_upto_region 10 with fail
    refine RX ?_;refine Zj (d:=10) (S:=(fun w'=>w'.rangeAt w 0 (Qf (YS s 9).want (YS s 9).cur (YS s 9).ZV (YS s 9).ZJ)∧w'.cell? ⟨V,0,none⟩=some (.pointer (some ⟨k,0,none⟩))∧w'.cell? ⟨w.heap.size+2,3,none⟩=some (.int .i64 q)∧Below w6 w6 w')) X6 ?_ (fun _=>?_)
    ·exact Zv.o _ (YE _ _).drew
    refine YP 1 (h:=YP 2 (h:=YP 3 (h:=YP 5 (h:=YP 7 (h:=?_)))));refine tk 0 ?_ rfl ?_ <| ?_
    rotate_left
    ·intro wS Ud;(try dsimp only at Ud)
     refine(Xj 202 (.tmp 4) ?_ w 0 ?_ (Qf (YS s 9).want (YS s 9).cur (YS s 9).ZV (YS s 9).ZJ) _ Ud.1 underlying202 rfl X6).trans ?_;all_goals rfl
    try simp only[pt]
    refine YK 4 (h:=YK 8 (h:=?_));refine YR 6 (h:=fun K hK=>?_);go_simp;refine COP.o.mono ?_;rintro e w' ⟨rfl,rfl⟩;go_wp2_with fail
    refine YY hK _ _ ?_ (fun _=>?_)
    ·exact Zv.o _ wY
    clear hK K;try simp only[pt]
    refine YR 9 (h:=fun K hK=>?_);go_simp;refine h_.o.mono ?_;rintro e w7 ⟨rfl,LP⟩;have zS:=Zh ((YE w6 w6).drew.trans LP);clear LP;go_wp2_with fail
    refine YY hK _ _ ?_ (fun _=>?_)
    ·exact Zv.o _ wY
    clear hK K;try simp only[pt]
    refine YR 10 (h:=fun K hK=>?_);have aC:=Zh (G0.o.below zS.o);refine RU Zr 202 (.tmp 4) (.tmp 62) Zr Zr w (XA (P9 (YS s 9) 9 q)).toArray Zr Zr 202 _ aC.o.st X6 Zr (Gd _) ?_;exact d_
  ·subst hK;have u1:=cell_of K_.o.st 1;have u3:=cell_of K_.o.st 3;have f1:=ZP K_.o.st 1;have f3:=ZP K_.o.st 3;simp only[XA,Ss,R_,Rw]at u1 u3;go_upto_region 9 with(go_at_call 143;refine ai.o.mono ?_;rintro e w' ⟨rfl,rfl⟩)
   have La:Hid (NX w ((w4.setCell ⟨w,3,none⟩ (.bool true)).setCell ⟨w,1,none⟩ (.int .i64 (-1))) (Qa kd p sr q nm a1 n1 c1 a2 n2 c2) (YS s 8)):=(K_.o.set 3 (.bool true) ⟨s.want,s.cur,s.ZV,true⟩ rfl).set 1 (.int .i64 (-1)) ⟨s.want,-1,s.ZV,true⟩ rfl;clear K_ u1 u3 f1 f3 v0 ai;generalize(w4.setCell ⟨w,3,none⟩ (.bool true)).setCell ⟨w,1,none⟩ (.int .i64 (-1))=w5 at *;have p1:w5.cell? ⟨w.heap.size+2,1,none⟩=some (.int .i64 p):=Zc La.o.op 1 rfl;have x1':w5.cell? ⟨V,1,none⟩=some (.int .i64 xp):=Zc (zI.o _ La.o.Za) 1 rfl;by_cases hp:p=xp
   rotate_left
   ·have fp:(p==xp)=false:=by rw[Wz];exact hp
    have Gu:Hid (C=YS s 8):=by show _=_;rw[Gt.o,Z3 (fun h=>hp h.1)]
    go_quiet (fail)
    exact jy
   have fp:(p==xp)=true:=by rw[beq_iff_eq];exact hp
   have CL:Hid (∀n,Calls prog 115 (Qk (some ⟨V,0,none⟩) (j:Int)) (w5.drewN n) fun e w'=>e = .returned (.bool (Wk ⟨xp,xs,xb,xf⟩ (j:Int)))∧w'=w5.drewN n):=fun n=>(Ob V xp xs xb xf wv cv qv _ (w5.drewN n) (zI.o w5 La.o.Za) (j:Int)).mono fun e w' ⟨a,b⟩=>⟨a,b.symm⟩
   generalize Wk ⟨xp,xs,xb,xf⟩ (j:Int)=l at *;cases l with
   | false=>
    have Gu:Hid (C=YS s 8):=by show _=_;rw[Gt.o,Z3 (fun h=>absurd h.2 Zd)]
    exact dU
   | true=>
    have Gu:Hid (C=P9 (YS s 8) 8 q):=by show _=_;rw[Gt.o,ZU ⟨hp,rfl⟩]
    go_quiet ((go_at_call 115;exact Calls.quiet_of_same (CL.o _)))
    have G0:=Zh (La.o.below (below_drewN (YE _ _) nq));clear p1 x1' CL La;generalize w5.drewN nq=w6 at *
    have Zv:Hid (∀w',Below w6 w6 w'→w'.rangeAt w 0 (Qf (YS s 8).want (YS s 8).cur (YS s 8).ZV (YS s 8).ZJ)∧w'.cell? ⟨V,0,none⟩=some (.pointer (some ⟨k,0,none⟩))∧w'.cell? ⟨w.heap.size+2,3,none⟩=some (.int .i64 q)∧Below w6 w6 w'):=fun w' hb=>
     ⟨fun m v hm=>by rw[PA,cell_of (G0.o.below hb).st m];simpa[XA]using hm,Zc (zI.o _ (G0.o.below hb).Za) 0 rfl,by rw[cell_of (G0.o.below hb).op 3];rfl,hb⟩
    have COP:=Zh (CO.o _ (G0.o.below (YE _ _).drew).Za);have h_:=Zh (JT (YS s 8) 8 q w6.drew);go_upto_region 10 with fail
    refine RX ?_;refine Zj (d:=10) (S:=(fun w'=>w'.rangeAt w 0 (Qf (YS s 8).want (YS s 8).cur (YS s 8).ZV (YS s 8).ZJ)∧w'.cell? ⟨V,0,none⟩=some (.pointer (some ⟨k,0,none⟩))∧w'.cell? ⟨w.heap.size+2,3,none⟩=some (.int .i64 q)∧Below w6 w6 w')) X6 ?_ (fun _=>?_)
    ·exact Zv.o _ (YE _ _).drew
    refine YP 1 (h:=YP 2 (h:=YP 3 (h:=YP 5 (h:=YP 7 (h:=?_)))));refine tk 0 ?_ rfl ?_ <| ?_
    rotate_left
    ·intro wS Ud;(try dsimp only at Ud)
     refine(Xj 202 (.tmp 4) ?_ w 0 ?_ (Qf (YS s 8).want (YS s 8).cur (YS s 8).ZV (YS s 8).ZJ) _ Ud.1 underlying202 rfl X6).trans ?_;all_goals rfl
    try simp only[pt]
    refine YK 4 (h:=YK 8 (h:=?_));refine YR 6 (h:=fun K hK=>?_);go_simp;refine COP.o.mono ?_;rintro e w' ⟨rfl,rfl⟩;go_wp2_with fail
    refine YY hK _ _ ?_ (fun _=>?_)
    ·exact Zv.o _ wY
    clear hK K;try simp only[pt]
    refine YR 9 (h:=fun K hK=>?_);go_simp;refine h_.o.mono ?_;rintro e w7 ⟨rfl,LP⟩;have zS:=Zh ((YE w6 w6).drew.trans LP);clear LP;go_wp2_with fail
    refine YY hK _ _ ?_ (fun _=>?_)
    ·exact Zv.o _ wY
    clear hK K;try simp only[pt]
    refine YR 10 (h:=fun K hK=>?_);have aC:=Zh (G0.o.below zS.o);refine RU Zr 202 (.tmp 4) (.tmp 62) Zr Zr w (XA (P9 (YS s 8) 8 q)).toArray Zr Zr 202 _ aC.o.st X6 Zr (Gd _) ?_;exact d_
  ·have g4:(KD==4)=false:=by rw[Wz];exact hK4
   have g9:(KD==9)=false:=by rw[Wz];exact hK9
   have g8:(KD==8)=false:=by rw[Wz];exact hK8
   have mX:Hid (YS s KD=s):=by show _=_;unfold YS;rw[Z3 Zo,Z3 hK8]
   have nO:Hid (C=if p=xp∧Wk ⟨xp,xs,xb,xf⟩ j=true then P9 s KD q else s):=by show _=_;rw[Gt.o,mX.o]
   clear Gt mX;have Gt:=nO;clear nO;go_upto_region 9 with(go_at_call 143;refine ai.o.mono ?_;rintro e w' ⟨rfl,rfl⟩)
   have La:=K_;clear K_ v0 ai;obtain⟨w5,rfl⟩:∃W:World,W=w4:=⟨_,rfl⟩;have p1:w5.cell? ⟨w.heap.size+2,1,none⟩=some (.int .i64 p):=Zc La.o.op 1 rfl;have x1':w5.cell? ⟨V,1,none⟩=some (.int .i64 xp):=Zc (zI.o _ La.o.Za) 1 rfl;by_cases hp:p=xp
   rotate_left
   ·have fp:(p==xp)=false:=by rw[Wz];exact hp
    have Gu:Hid (C=s):=by show _=_;rw[Gt.o,Z3 (fun h=>hp h.1)]
    go_quiet (fail)
    exact jy
   have fp:(p==xp)=true:=by rw[beq_iff_eq];exact hp
   have CL:Hid (∀n,Calls prog 115 (Qk (some ⟨V,0,none⟩) (j:Int)) (w5.drewN n) fun e w'=>e = .returned (.bool (Wk ⟨xp,xs,xb,xf⟩ (j:Int)))∧w'=w5.drewN n):=fun n=>(Ob V xp xs xb xf wv cv qv _ (w5.drewN n) (zI.o w5 La.o.Za) (j:Int)).mono fun e w' ⟨a,b⟩=>⟨a,b.symm⟩
   generalize Wk ⟨xp,xs,xb,xf⟩ (j:Int)=l at *;cases l with
   | false=>
    have Gu:Hid (C=s):=by show _=_;rw[Gt.o,Z3 (fun h=>absurd h.2 Zd)]
    exact dU
   | true=>
    have Gu:Hid (C=P9 (s) KD q):=by show _=_;rw[Gt.o,ZU ⟨hp,rfl⟩]
    go_quiet ((go_at_call 115;exact Calls.quiet_of_same (CL.o _)))
    have G0:=Zh (La.o.below (below_drewN (YE _ _) nq));clear p1 x1' CL La;generalize w5.drewN nq=w6 at *
    have Zv:Hid (∀w',Below w6 w6 w'→w'.rangeAt w 0 (Qf (s).want (s).cur (s).ZV (s).ZJ)∧w'.cell? ⟨V,0,none⟩=some (.pointer (some ⟨k,0,none⟩))∧w'.cell? ⟨w.heap.size+2,3,none⟩=some (.int .i64 q)∧Below w6 w6 w'):=fun w' hb=>
     ⟨fun m v hm=>by rw[PA,cell_of (G0.o.below hb).st m];simpa[XA]using hm,Zc (zI.o _ (G0.o.below hb).Za) 0 rfl,by rw[cell_of (G0.o.below hb).op 3];rfl,hb⟩
    have COP:=Zh (CO.o _ (G0.o.below (YE _ _).drew).Za);have h_:=Zh (JT (s) KD q w6.drew);go_upto_region 10 with fail
    refine RX ?_;refine Zj (d:=10) (S:=(fun w'=>w'.rangeAt w 0 (Qf (s).want (s).cur (s).ZV (s).ZJ)∧w'.cell? ⟨V,0,none⟩=some (.pointer (some ⟨k,0,none⟩))∧w'.cell? ⟨w.heap.size+2,3,none⟩=some (.int .i64 q)∧Below w6 w6 w')) X6 ?_ (fun _=>?_)
    ·exact Zv.o _ (YE _ _).drew
    refine YP 1 (h:=YP 2 (h:=YP 3 (h:=YP 5 (h:=YP 7 (h:=?_)))));refine tk 0 ?_ rfl ?_ <| ?_
    rotate_left
    ·intro wS Ud;(try dsimp only at Ud)
     refine(Xj 202 (.tmp 4) ?_ w 0 ?_ (Qf (s).want (s).cur (s).ZV (s).ZJ) _ Ud.1 underlying202 rfl X6).trans ?_;all_goals rfl
    try simp only[pt]
    refine YK 4 (h:=YK 8 (h:=?_));refine YR 6 (h:=fun K hK=>?_);go_simp;refine COP.o.mono ?_;rintro e w' ⟨rfl,rfl⟩;go_wp2_with fail
    refine YY hK _ _ ?_ (fun _=>?_)
    ·exact Zv.o _ wY
    clear hK K;try simp only[pt]
    refine YR 9 (h:=fun K hK=>?_);go_simp;refine h_.o.mono ?_;rintro e w7 ⟨rfl,LP⟩;have zS:=Zh ((YE w6 w6).drew.trans LP);clear LP;go_wp2_with fail
    refine YY hK _ _ ?_ (fun _=>?_)
    ·exact Zv.o _ wY
    clear hK K;try simp only[pt]
    refine YR 10 (h:=fun K hK=>?_);have aC:=Zh (G0.o.below zS.o);refine RU Zr 202 (.tmp 4) (.tmp 62) Zr Zr w (XA (P9 (s) KD q)).toArray Zr Zr 202 _ aC.o.st X6 Zr (Gd _) ?_;exact d_
 case rest=>
  obtain⟨w9,rfl⟩:∃W:World,W=wc:=⟨_,rfl⟩;have HN9:=Zh hcut;clear hcut K_ HC CO;have CP9:=Zh (CP.o _ HN9.o.Za);obtain⟨ca,cc,cp,cm⟩:=C;cases pk with
  | false=>
   have Vc:Hid (X=⟨ca,cc,cp,cm⟩):=by show _=_;rw[HX.o];rfl
   clear HX CN;go_wp2_with (first|(go_at_call 88;refine CP9.o.mono ?_;rintro e TL ⟨rfl,Ou⟩;have JI:=Zh (HN9.o.below Ou);have kA:TL.heap[w.heap.size]?=some (.cells (Qf ca cc cp cm) 202 (0,0)):=JI.o.st;have zA:=JI.o.z;clear Ou)|with_reducible refine Zl kA underlying202 ?_|(with_reducible refine Zs (cells:=(Qf ca cc cp cm)) zA ?_))
   exact Yx90
  | true=>
   cases opn with
   | false=>
    have Vc:Hid (X=⟨ca,cc,cp,cm⟩):=by show _=_;rw[HX.o];rfl
    clear HX;go_wp2_with (first|(go_at_call 88;refine CP9.o.mono ?_;rintro e TL ⟨rfl,Ou⟩;have JI:=Zh (HN9.o.below Ou);have kA:TL.heap[w.heap.size]?=some (.cells (Qf ca cc cp cm) 202 (0,0)):=JI.o.st;have zA:=JI.o.z;have CN10:=Zh (CN.o _ JI.o.Za);clear Ou)|(go_at_call 89;refine CN10.o.mono ?_;rintro e Gl ⟨rfl,xS⟩;have dv:=Zh (JI.o.below xS);clear JI kA zA xS;obtain⟨TL,rfl⟩:∃W:World,W=Gl:=⟨_,rfl⟩;have JI:=dv;clear dv;have kA:TL.heap[w.heap.size]?=some (.cells (Qf ca cc cp cm) 202 (0,0)):=JI.o.st;have zA:=JI.o.z)|with_reducible refine Zl kA underlying202 ?_|(with_reducible refine Zs (cells:=(Qf ca cc cp cm)) zA ?_))
    exact Yx90
   | true=>
    have Vc:Hid (X=⟨ca,ly,cp,cm⟩):=by show _=_;rw[HX.o];rfl
    clear HX;go_upto_region 12 with(first|(go_at_call 88;refine CP9.o.mono ?_;rintro e TL ⟨rfl,Ou⟩;have JI:=Zh (HN9.o.below Ou);have kA:TL.heap[w.heap.size]?=some (.cells (Qf ca cc cp cm) 202 (0,0)):=JI.o.st;have zA:=JI.o.z;have CN10:=Zh (CN.o _ JI.o.Za);clear Ou)|(go_at_call 89;refine CN10.o.mono ?_;rintro e Gl ⟨rfl,xS⟩;have dv:=Zh (JI.o.below xS);clear JI kA zA xS;obtain⟨TL,rfl⟩:∃W:World,W=Gl:=⟨_,rfl⟩;have JI:=dv;clear dv;have kA:TL.heap[w.heap.size]?=some (.cells (Qf ca cc cp cm) 202 (0,0)):=JI.o.st;have zA:=JI.o.z))
    have v0:TL.cell? ⟨V,0,none⟩=some (.pointer (some ⟨k,0,none⟩)):=Zc (zI.o _ JI.o.Za) 0 rfl;have b2:TL.cell? ⟨k,2,none⟩=some (.slice (some ⟨g9,o9,none⟩) L.length c9):=Zc (wm.o _ JI.o.Za) 2 rfl;have gW:=HLY.o _ JI.o.Za;have u1:=cell_of JI.o.st 1;have f1:=ZP JI.o.st 1;simp only[XA,Ss,R_,Rw]at u1;go_upto_region 13 with fail
    have dv:Hid (NX w (TL.setCell ⟨w,1,none⟩ (.int .i64 ly)) (Qa kd p sr q nm a1 n1 c1 a2 n2 c2) ⟨ca,ly,cp,cm⟩):=JI.o.set 1 (.int .i64 ly) ⟨ca,ly,cp,cm⟩ rfl;clear JI kA zA v0 b2 gW u1 f1;generalize TL.setCell ⟨w,1,none⟩ (.int .i64 ly)=Gl at *;have kA:Gl.heap[w.heap.size]?=some (.cells (Qf ca ly cp cm) 202 (0,0)):=dv.o.st;have zA:=dv.o.z;go_wp2_with (first|with_reducible refine Zl kA underlying202 ?_|(with_reducible refine Zs (cells:=(Qf ca ly cp cm)) zA ?_))
    refine Vr (v:= .agg (Qf ca ly cp cm)) ?_ rfl ?_
    ·exact results_cell_row Zr _ _ (w.heap.size+1) 202 (Qf ca ly cp cm) (0,0) _ Zr (setRow_heap _ _ _ _ _ _ zA) underlying202 rfl X6
    exact⟨by rw[Vc.o],Z0 dv.o.Za (JV _) _⟩
end
def ux{w:World}{a:Option Addr}{n c:Nat}{l:List Zt}(h:Row w 59 (.slice a n c) n (l.flatMap Z5)){j:Nat}{z:Zt}(hz:l[j]?=some z):∃g o,a=some ⟨g,o,none⟩ ∧
  w.cell? ⟨g,o+j*4,none⟩=some (.int .i64 z.peer)∧w.cell? ⟨g,o+j*4+1,none⟩=some (.int .i64 z.source)∧w.cell? ⟨g,o+j*4+2,none⟩=some (.int .i64 z.Mx)∧w.cell? ⟨g,o+j*4+3,none⟩=some (.int .i64 z.fin):=by
 have hl:j<l.length:=(List.getElem?_eq_some_iff.1 hz).1;obtain⟨g,o,e,h2⟩:=UI Z5 4 (fun _=>rfl) h Zo;exact⟨g,o,e,h2 j z hz 0 Zo,h2 j z hz 1 Zo,h2 j z hz 2 Zo,h2 j z hz 3 Zo⟩
def sV(lv:Value)(LS:List Zt)(x:Zt)(w:World)(h:Row w 59 lv LS.length (LS.flatMap Z5)) :
  Calls prog 142 #[lv,.agg (Z5 x).toArray] w fun e w'=>(∃i:Int,e = .returned (.int .i64 i)∧(0≤i↔x∈LS))∧Below w w w':=by
 obtain⟨va,vc,rfl⟩:=Row.form h
 have x8:LS.length≤maxLen:=by
  obtain⟨a,c,e,h1,h2,_⟩:=h;injection e with _ _ e
  omega
 unfold maxLen at x8;obtain⟨p,s,b,f⟩:=x;have HR:=Zh h;clear h;dsimp only[Z5];have U_:Hid (Below w w (w.alloc (.cells (Qb p s b f) 59))):=Z' w _;have Rq:Hid ((w.alloc (.cells (Qb p s b f) 59)).heap[w.heap.size]?=some (.cells (Qb p s b f) 59 (0,0))):=Z9 w _;go_enter func142,ntmps142;go_wp2_with fail
 generalize w.alloc (.cells (Qb p s b f) 59)=w0 at *;go_loopw [8] (fun s8 w'=>∃j:Nat,j≤LS.length∧s8 = .int .i64 (j:Int)∧Below w w w'∧w'.heap[w.heap.size]?=some (.cells (Qb p s b f) 59 (0,0))∧Hid (∀i,i<j→LS[i]?≠some ⟨p,s,b,f⟩)) (fun s8 _=>LS.length-(intOf s8).toNat)
 case atStart=>exact⟨0,Zo,rfl,U_.o,Rq.o,fun i hi=>by omega⟩
 case round=>
  obtain⟨j,hj,rfl,Xp,hz,Iq⟩:=hrel;clear U_ Rq;have HB:=Zh Xp;have HZ:=Zh hz;by_cases RZ:j<LS.length
  ·have hy:LS[j]?=some LS[j]:=U' RZ;obtain⟨g,o,e,y0,y1,y2,y3⟩:=ux (HR.o.below Xp) hy;cases e;have z0:wr.cell? ⟨w,0,none⟩=some (.int .i64 p):=Zc hz 0 rfl;have z1:wr.cell? ⟨w,1,none⟩=some (.int .i64 s):=Zc hz 1 rfl;have z2:wr.cell? ⟨w,2,none⟩=some (.int .i64 b):=Zc hz 2 rfl;have z3:wr.cell? ⟨w,3,none⟩=some (.int .i64 f):=Zc hz 3 rfl;have Cj:(j:Int)<(LS.length:Int):=PM.2 RZ;generalize hq:LS[j]=q at *;have HY:=Zh hy;clear hy hq Xp hz;obtain⟨p',s',b',f'⟩:=q;dsimp only at y0 y1 y2 y3;by_cases he:(⟨p,s,b,f⟩:Zt)=⟨p',s',b',f'⟩
   ·cases he;go_wp2_with fail
    go_quiet (fail)
    have Yc:=Zh (below_drewN HB.o nq);go_wp2_with fail
    go_ret;exact⟨⟨(j:Int),rfl,⟨fun _=>List.mem_of_getElem? HY.o,fun _=>by omega⟩⟩,Yc.o⟩
   ·have mY:Hid (∀i,i<j+1→LS[i]?≠some ⟨p,s,b,f⟩):=fun i hi hc=>by
     by_cases h:i=j
     ·rw[h,HY.o]at hc;exact he (Option.some.inj hc).symm
     ·exact Iq.o i Zo hc
    by_cases h1:p=p'
    rotate_left
    ·have f1:(p==p')=false:=by rw[Wz];exact h1
     exact dY
    subst h1;by_cases h2:s=s'
    rotate_left
    ·have f1:(s==s')=false:=by rw[Wz];exact h2
     exact dY
    subst h2;by_cases h3:b=b'
    rotate_left
    ·have f1:(b==b')=false:=by rw[Wz];exact h3
     exact dY
    subst h3;have h4:f≠f':=fun h=>he (by rw[h])
    have f1:(f==f')=false:=by rw[Wz];exact h4
    exact dY
  ·have K6:j=LS.length:=by omega
   have mY:Hid ((⟨p,s,b,f⟩:Zt) ∉ LS):=fun hm=>by
    obtain⟨i,hi,hc⟩:=List.mem_iff_getElem.1 hm;exact Iq.o i Zo (by rw[U' hi,hc])
   clear Xp hz;go_wp2_with fail
   go_ret;exact⟨⟨-1,rfl,⟨fun h=>absurd h Zd,fun h=>absurd h mY.o⟩⟩,HB.o⟩
def LM(lv:Value)(LS:List Zt)(x:Zt)(w:World)(h:Row w 59 lv LS.length (LS.flatMap Z5)) :
  Calls prog 113 #[lv,.agg (Z5 x).toArray] w fun e w'=>e = .returned (.bool (decide (x∈LS)))∧Below w w w':=by
 have U_:Hid (Below w w (w.alloc (.cells (Z5 x).toArray 59))):=Z' w _;have CI:=Zh (sV lv LS x _ (Row.below h U_.o));have HX:Hid (∀i:Int,(0≤i↔x∈LS)→decide (0≤i)=decide (x∈LS)):=fun i hi=>by rw[Bool.eq_iff_iff,Su,Su];exact hi
 generalize decide (x∈LS)=X at *;generalize(x∈LS)=M at *;clear h;obtain⟨p,s,b,f⟩:=x;dsimp only[Z5]at CI U_ ⊢;go_enter func113,ntmps113;go_wp2_with (go_at_call 142;refine CI.o.mono ?_;rintro e w2 ⟨⟨i,rfl,hi⟩,Y7⟩;have Yc:=Zh (Tr U_ Y7);have HI:=Zh (HX.o i hi);clear hi Y7)
 go_ret;exact⟨by rw[←HI.o];rfl,Yc.o⟩
section
variable {P:Program}
def mD{w:World}(t ty:TypeId)(base:Nat){e:TypeId}{size bytes:Nat}(E:Elem P t e size bytes)(v:Value)(n:Nat)(xs:List Value)(Yy:w.ownsRow base e size v n xs)
  (b m c:Nat) (news:List Value) (ZW:Row w e (.slice (some ⟨b,0,none⟩) m c) m news) (hl:news.length=m*size) (h1:∀u∈news,u.oneCell'=true) (hm:0<m)
  (Ue:(n+m)*bytes≤140737488355328) (j5:n+m≤9223372036854775807) (Rz:base≤w.heap.size) :
  ∃v' w',(Builtin.append_ #[t,t] ty #[v,.slice (some ⟨b,0,none⟩) m c]).run P w = .ok v' w'∧w'.ownsRow base e size v' (n+m) (xs++news)∧w.grownBy w' v.ownBlock ∧
   ∀i,v'.ownBlock=some i→v.ownBlock=some i∨i=w.heap.size:=by
 obtain⟨v',w',hr,h2,h3⟩:=sx (P:=P) t ty base E v n xs Yy _ m news ZW hl h1 Ue j5 Rz;refine⟨v',w',hr,h2,h3,?_⟩;obtain⟨z,Um,g_⟩:=E.info;obtain⟨i,hi,hz,RI,kx⟩:=info_parts Um;subst RI;subst kx
 have kK:∀j u,news[j]?=some u→w.cell? ((⟨b,0,none⟩:Addr).add j)=some u:=by
  obtain⟨ad,cap,hv,_,_,_,hr⟩:=ZW;injection hv with hv _ _
  subst hv;intro j u hu;rcases hr with hr|⟨b',off,c',fr,Ry,hb,hc⟩
  ·subst hr;simp at hu
  ·cases Ry;have hj:j<news.length:=(List.getElem?_eq_some_iff.1 hu).1;have:=hc j hj;have MC:(⟨b,0,none⟩:Addr).add j=⟨b,0+j,none⟩:=by unfold Addr.add;split <;> simp_all
   rw[MC];simp only[World.cell?,hb];simpa[hu]using this
 have hl2:∀k,(Value.slice (some ⟨w,0,none⟩) (n+m) k).ownBlock=some w.heap.size:=fun _=>rfl
 rcases Yy.2 with⟨rfl,rfl⟩|⟨g,cap,cur,rfl,hbg,hg,hnc,tS,Tx,htake⟩
 ·rw[PA]at Ue;have OA:=run_append_nil (P:=P) w t ty e i z E.ht hi hz ⟨b,0,none⟩ m c news hl kK hm Zo Zo;rw[OA]at hr;injection hr with e1 _
  subst e1;intro k hk;exact WG (Option.some.inj hk).symm
 ·by_cases Xh:n+m≤cap
  ·have hfit:n*i.size+news.length≤cur.size:=by rw[hl,Tx,←Nat.add_mul];exact Nat.mul_le_mul_right _ Xh
   have OA:=run_append_room (P:=P) w t ty e i E.ht hi g n cap cur hg ⟨b,0,none⟩ m c news hl kK h1 Xh hfit;rw[OA]at hr;injection hr with e1 _
   subst e1;intro k hk;exact WQ hk
  ·have holds:∀j u,xs[j]?=some u→w.cell? ((⟨g,0,none⟩:Addr).add j)=some u:=Yy.cells (g:=g) rfl;have OA:=run_append_grow (P:=P) w t ty e i z E.ht hi hz ⟨g,0,none⟩ n cap xs Yy.1 holds ⟨b,0,none⟩ m c news hl kK Zo Zo (growslice_fits Zo Ue);rw[OA]at hr;injection hr with e1 _
   subst e1;intro k hk;exact WG (Option.some.inj hk).symm
def WZ{ops:Array Oper}{o:Oper}{a:Act}{w:World}{K:Act→World→Prop}{Q:Exit→Act→World→Prop}{E':Prop}(Lt:o.guard=none)(s x:Operand)(t:TypeId)
  (ho:o.op = .call {callee:= .builtin .append,args:=#[s,x],argTypes:=#[t,t]})
  (base:Nat) {e:TypeId} {size bytes:Nat} (E:Elem P t e size bytes)
  (v:Value) (n:Nat) (xs:List Value) (hs:a.eval s=v) (Yy:w.ownsRow base e size v n xs)
  (b m c:Nat) (news:List Value) (hx:a.eval x = .slice (some ⟨b,0,none⟩) m c) (ZW:Row w e (.slice (some ⟨b,0,none⟩) m c) m news) (hl:news.length=m*size) (h1:∀u∈news,u.oneCell'=true) (hm:0<m)
  (Ue:(n+m)*bytes≤140737488355328) (j5:n+m≤9223372036854775807) (Rz:base≤w.heap.size)
  (h:∀v' w',Hid (w'.ownsRow base e size v' (n+m) (xs++news))→Hid (w.grownBy w' v.ownBlock)→Hid (∀i,v'.ownBlock=some i→v.ownBlock=some i∨i=w.heap.size)→K (a.put o.dst v') w') :
  if Region.wanted o (yielded ops a.tmps)=true then Oper.wp P o a w K Q else E':=by
 have hw:Region.wanted o (yielded ops a.tmps)=true:=by simp[Region.wanted,Lt]
 rw[ZU hw];obtain⟨v',w',AY,h2,h3,h4⟩:=mD (P:=P) t o.type base E v n xs Yy b m c news ZW hl h1 hm Ue j5 Rz;unfold Oper.wp;simp[execOp,ho,resolve,invoke,builtin,hs,hx,AY,Result.andThen];exact h v' w' h2 h3 h4
def dT{ops:Array Oper}{o:Oper}{a:Act}{w:World}{K:Act→World→Prop}{Q:Exit→Act→World→Prop}{E':Prop}(Lt:o.guard=none){t e:TypeId}{bytes:Nat}(E:Elem P t e 1 bytes)(x:Operand)(ho:o.op = .buildSlice t 1 #[(0,x)])
  (v:Value) (hx:a.eval x=v) (hv:v.cells=#[v])
  (h:K (a.put o.dst (.slice (some ⟨w,0,none⟩) 1 1)) (w.alloc (.cells #[v] e))):if Region.wanted o (yielded ops a.tmps)=true then Oper.wp P o a w K Q else E':=by
 exact Yx59
end
