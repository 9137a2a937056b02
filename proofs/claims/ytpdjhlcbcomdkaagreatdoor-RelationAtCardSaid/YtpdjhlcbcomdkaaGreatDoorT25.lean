/- Part of a proof. -/
import Derived.Test.YtpdjhlcbcomdkaaGreatDoorT24
set_option linter.unusedVariables false
set_option linter.unusedSimpArgs false
set_option maxRecDepth 100000
set_option maxHeartbeats 16000000
open Go Go.Q Go.Qr Go.Proofs.Tryz
namespace Go.Proofs.By
open Go.RowKit Go.Proofs.Heap
open Go.Proofs.Rm (below_drewN Room Inv Wn OpV XJ YN Tk Uw)
open Go.Proofs.ND (Xu)
open Go.Proofs.Mem
theorem pI{c:Ow}{n:Int}(h:c.Below n)(k:Int){u:Int}(h0:0≤u)(h1:u≤8000):(c.add k u).Below (n+8001):=by
 obtain⟨⟨a1,a2⟩,⟨b1,b2⟩,⟨c1,c2⟩,⟨d1,d2⟩⟩:=h;unfold Ow.add;refine⟨?_,?_,?_,?_⟩ <;> dsimp only <;> split <;> omega
open Go.Proofs
open Go.Proofs.Rm (ZM ZO Vn WA opens Zq JM PJ Yw YL)
theorem fX{w:World}{x:Ag}(h:G9 w x):∀u∈Xh x,u.oneCell'=true:=by
 obtain⟨⟨a1,c1,h1⟩,⟨a2,c2,h2⟩,⟨a3,c3,h3⟩⟩:=Vy.form h.p;obtain⟨a4,c4,h4⟩:=YH.form h.i;obtain⟨e,cv,ev,pv,iv⟩:=x;dsimp only at h1 h2 h3 h4;subst h1;subst h2;subst h3;subst h4;intro u hu;simp only[Xh,Sj,VJ,List.cons_append,Hz,J9,List.mem_nil_iff,or_false]at hu;rcases hu with rfl|rfl|rfl|rfl|rfl|rfl|rfl|rfl|rfl|rfl|rfl|rfl|rfl|rfl|rfl|rfl|rfl <;> rfl
structure MS(w w':World)(k b ob:Nat)(o7:Array Value)(cs:Array Value)(av:Value)(A:List EJ)(ev:Value)(E:List Ag)(lv:Value)(LS:List Zx)(T:ZO):Prop where
 st:WI w w' k cs av A ev E lv LS
 ref:ZM w' b T
 op:w'.heap[ob]?=some (.cells o7 32 (0,0))
 Zf:Below w w w'
 kk:w.heap.size≤k
 bb:w.heap.size≤b
 oo:w.heap.size≤ob
section
variable {w w1 w2:World} {k b ob:Nat} {o7 cs:Array Value} {av:Value} {A:List EJ} {ev:Value} {E:List Ag} {lv:Value} {LS:List Zx} {T:ZO}
theorem MS.below(h:MS w w1 k b ob o7 cs av A ev E lv LS T)(hb:Below w1 w1 w2):MS w w2 k b ob o7 cs av A ev E lv LS T:=
 ⟨h.st.below hb,h.ref.below hb,(hb.block _ (ZX h.op)).trans h.op,h.Zf.trans (hb.mono h.Zf.size),h.kk,h.bb,h.oo⟩
theorem MS.Gk(h:MS w w1 k b ob o7 cs av A ev E lv LS T)(o:Nat)(u:Value):MS w (w1.setCell ⟨k,o,none⟩ u) k b ob o7 (cs.setIfInBounds o u) av A ev E lv LS T:=by
 have hf:Fr w1 (· = k) w1 (w1.setCell ⟨k,o,none⟩ u):=(Fr.refl _ _ _).setAt _ _;have hoff:=UZ (ts:=[91,103,108,105,66]) h.st.Y8 Zd;exact⟨h.st.Gk o u,Ul h.ref hf hoff,(hf.block _ (ZX h.op) (fun e=>UZ (ts:=[32]) h.st.Y8 Zd _ Zi _ _ _ e h.op)).trans h.op,(Fr.setCell (p:=⟨k,o,none⟩) (Fr.Z6 Pz h.Zf) (WO h.kk) u).below,h.kk,h.bb,h.oo⟩
theorem MS.Co(h:MS w w1 k b ob o7 cs av A ev E lv LS T)(hg:w1.grownBy w2 av.ownBlock){v':Value}{l':List EJ}(ho:w2.ownsRow w 35 4 v' l'.length (l'.flatMap VE)):MS w w2 k b ob o7 cs v' l' ev E lv LS T:=
 ⟨h.st.Co hg ho,Ul h.ref (XS hg) (Ro h.st.XX Zd),(hg.block _ (ZX h.op) (fun e=>Y7 h.st.XX Zd _ _ _ e.symm h.op)).trans h.op,((Fr.Z6 Pz h.Zf).grown hg h.Zf.size (YL h.st.XX)).below,h.kk,h.bb,h.oo⟩
theorem MS.ym(h:MS w w1 k b ob o7 cs av A ev E lv LS T)(hg:w1.grownBy w2 lv.ownBlock){v':Value}{l':List Zx}(ho:w2.ownsRow w 59 4 v' l'.length (l'.flatMap Z8)):MS w w2 k b ob o7 cs av A ev E v' l' T:=
 ⟨h.st.ym hg ho,Ul h.ref (XS hg) (Ro h.st.QM Zd),(hg.block _ (ZX h.op) (fun e=>Y7 h.st.QM Zd _ _ _ e.symm h.op)).trans h.op,((Fr.Z6 Pz h.Zf).grown hg h.Zf.size (YL h.st.QM)).below,h.kk,h.bb,h.oo⟩
theorem MS.kV(h:MS w w1 k b ob o7 cs av A ev E lv LS T)(hg:w1.grownBy w2 ev.ownBlock){v':Value}{x:Ag}(hx:G9 w1 x)(ho:w2.ownsRow w 84 17 v' (E++[x]).length ((E++[x]).flatMap Xh)):MS w w2 k b ob o7 cs av A v' (E++[x]) lv LS T:=
 ⟨h.st.kV hg hx ho,Ul h.ref (XS hg) (Ro h.st.A0 Zd),(hg.block _ (ZX h.op) (fun e=>Y7 h.st.A0 Zd _ _ _ e.symm h.op)).trans h.op,((Fr.Z6 Pz h.Zf).grown hg h.Zf.size (YL h.st.A0)).below,h.kk,h.bb,h.oo⟩
theorem MS.aY(h:MS w w1 k b ob o7 cs av A ev E lv LS T)(hf:Fr w1 (fun j=>lv.ownBlock=some j) w1 w2){tP:List Zx}(ho:w2.ownsRow w 59 4 lv tP.length (tP.flatMap Z8)):MS w w2 k b ob o7 cs av A ev E lv tP T:=
 ⟨h.st.aY hf (Ro h.st.QM Zd) ho,Ul h.ref hf (Ro h.st.QM Zd),(hf.block _ (ZX h.op) (fun e=>Y7 h.st.QM Zd _ _ _ e h.op)).trans h.op,h.Zf.trans ((hf.mono h.Zf.size (S':=Pz) (fun i hi hs=>by have:=YL h.st.QM i hs;omega)).below),h.kk,h.bb,h.oo⟩
theorem MS.room(h:MS w w1 k b ob o7 cs av A ev E lv LS T){T':ZO}{cs':Array Value}(hk:w2.heap[k]?=some (.cells cs' 44 (0,0)))(hr:ZM w2 b T')(hf:Fr w1 (fun j=>j=k∨j=b) w1 w2):MS w w2 k b ob o7 cs' av A ev E lv LS T':=by
 obtain⟨_,_,_,hc,_⟩:=h.ref.Vv;have h1:=mQ (UZ (ts:=32 :: MF.drop 1) h.st.Y8 Zd) (UZ hc Zd);exact⟨h.st.frS hf (fun e he=>h1 e (List.mem_cons_of_mem _ he)) hk,hr,(hf.block _ (ZX h.op) (fun e=>h1 _ (List.mem_cons_self ..) _ _ _ e h.op)).trans h.op,h.Zf.trans ((hf.mono h.Zf.size (S':=Pz) (fun i hi hs=>by have:=h.kk;have:=h.bb;omega)).below),h.kk,h.bb,h.oo⟩
end
structure SS(w w':World)(k b:Nat)(vs:Option Addr)(vc:Nat)(av ev lv:Value)(L:List WE)(j:Nat)(E:List Ag)(T:ZO)(R:Room)(ep:Int):Prop where
 st:WI w w' k (Qw vs L.length vc av ev lv (Pr L j).bad (Pr L j).XA (Pr L j).unknown (Pr L j).refused 0 0 0 0 (some ⟨b,0,none⟩)) av (XZ L j) ev E lv (Zu L L.length j)
 ref:ZM w' b T
 Zf:Below w w w'
 kk:w.heap.size≤k
 bb:w.heap.size≤b
 A0:E.map (·.e)=Fq L j
 sim:WA T R
 inv:Inv R
 vM:Wn R
 bare:R.bare=(Yd L j).1
 eps:ep=(Yd L j).2
 li:LI L.length (opens R) (Zu L L.length j)
 uf:(Pr L j).Below (8001*(j:Int))
 ops:WY w' (.slice vs L.length vc) L
theorem SS.below{w w1 w2:World}{k b:Nat}{vs:Option Addr}{vc:Nat}{av ev lv:Value}{L:List WE}{j:Nat}{E:List Ag}{T:ZO}{R:Room}{ep:Int}(h:SS w w1 k b vs vc av ev lv L j E T R ep)(hb:Below w1 w1 w2):SS w w2 k b vs vc av ev lv L j E T R ep:=
 ⟨h.st.below hb,h.ref.below hb,h.Zf.trans (hb.mono h.Zf.size),h.kk,h.bb,h.A0,h.sim,h.inv,h.vM,h.bare,h.eps,h.li,h.uf,h.ops.below hb⟩
theorem pJ(k b:Nat)(oa:Option Addr)(n oc:Nat)(av ev lv:Value)(c:Ow)(T:ZO)(R:Room)(ep:Int)(o:Rm.Op)(sa ba:Option Addr)(sc bl bc:Nat)(bs:List UInt8)(sv:Value)(w:World)
  (OS:w.heap[k]?=some (.cells (Qw oa n oc av ev lv c.bad c.XA c.unknown c.refused 0 0 0 0 (some ⟨b,0,none⟩)) 44 (0,0))) (hR:ZM w b T) (hs:WA T R) (hI:Inv R) (hS:Wn R) (hT:Xu w) (UT:o.name.length<9223372036854775807) (L9:XM w (.slice sa o.ZK.length sc) o.ZK.length (YN o.ZK)) (pZ:X5 w (.slice ba bl bc) bs) (h0:0≤ep) (h9:ep<1000000000) (hc:c.Below 1000000000) :
  Calls prog 42 (Qt (some ⟨k,0,none⟩) (Jq o sa o.ZK.length sc ba bl bc) ep) w (Ud k b oa n oc av ev lv c (take R ep o bs sv) w):=by
 by_cases h:o.kind=1
 ·exact kD k b oa n oc av ev lv c T R ep o sa ba o.ZK.length sc bl bc bs sv w OS hR hs hI hS pZ h0 h9 hc h
 ·exact pK k b oa n oc av ev lv c T R ep o sa ba sc bl bc bs sv w OS hR hs hI hT UT L9 h0 h9 hc h
theorem fg(v:Value)(L:List WE)(w:World)(hT:Xu w)(h:WY w v L)(hL:L.length≤256) :
  Calls prog 17 #[v] w fun e w'=>∃k b vs vc av ev lv E T R ep,e = .returned (.pointer (some ⟨k,0,none⟩))∧SS w w' k b vs vc av ev lv L L.length E T R ep:=by
 obtain⟨va,vc,rfl,hvc,yD⟩:=h.form;have hKm:min (L.length:Int) 256=(L.length:Int):=by omega
 obtain⟨vs,Us,-,FH⟩:=Sk (P:=prog) uo va L.length vc L.length Zo
 have HO:Hid (WY w (.slice vs L.length vc) L):=by
  have h2:=h.take (Zw _) FH
  rwa[n9]at h2
 have HT:Hid (∀w',Below w w w'→Xu w'):=fun w' h=>Utf8Tabs_below hT h
 clear h FH hT;go_enter func17,ntmps17;go_upto_region 2 with fail
 have wO:=V4 w (Jg none 0 0 none 0 0 none 0 0) (Jh vs L.length vc none 0 0 none 0 0 none 0 0 0 0 0 0 0 0 0 0 (some ⟨w,0,none⟩)) 91 44;have Vk:Hid (Below w w ((w.alloc (.cells (Jg none 0 0 none 0 0 none 0 0) 91)).alloc (.cells (Jh vs L.length vc none 0 0 none 0 0 none 0 0 0 0 0 0 0 0 0 0 (some ⟨w,0,none⟩)) 44))):=ZF (Z' w _) (Zw _) _;obtain⟨P8,TY,mB⟩:=wO;have k0:((w.alloc (.cells (Jg none 0 0 none 0 0 none 0 0) 91)).alloc (.cells (Jh vs L.length vc none 0 0 none 0 0 none 0 0 0 0 0 0 0 0 0 0 (some ⟨w,0,none⟩)) 44)).cell? ⟨w.heap.size+1,0,none⟩=some (.slice vs L.length vc):=Zc TY 0 rfl
 have E3:Hid (SS w ((w.alloc (.cells (Jg none 0 0 none 0 0 none 0 0) 91)).alloc (.cells (Jh vs L.length vc none 0 0 none 0 0 none 0 0 0 0 0 0 0 0 0 0 (some ⟨w,0,none⟩)) 44)) (w.heap.size+1) w vs vc (.slice none 0 0) (.slice none 0 0) (.slice none 0 0) L 0 [] ⟨[],[],[]⟩ Rm.empty 0):=
  ⟨⟨TY,TV _ _ _ _,TV _ _ _ _,fun _ h=>(by cases h),TV _ _ _ _⟩,⟨_,_,_,P8,Row.nil _ _,⟨[],rfl,Row.nil _ _,fun _ h=>(by cases h)⟩,Row.nil _ _⟩,Vk.o,J_ _,Zw _,rfl,JM,Tk,Uw,rfl,rfl,by rw[PJ];exact LI.nil _,(show mO.Below (8001*((0:Nat):Int))from⟨by decide,by decide,by decide,by decide⟩),HO.o.below Vk.o⟩
 clear P8 TY mB;generalize((w.alloc (.cells (Jg none 0 0 none 0 0 none 0 0) 91)).alloc (.cells (Jh vs L.length vc none 0 0 none 0 0 none 0 0 0 0 0 0 0 0 0 0 (some ⟨w,0,none⟩)) 44))=w0 at *
 go_wp2_with fail
 go_loopw [4,25] (fun s4 s25 w'=>∃(j:Nat) (av ev lv:Value) (E:List Ag) (T:ZO) (R:Room) (ep:Int),j≤L.length∧s25 = .int .i64 (j:Int)∧s4 = .int .i64 ep∧SS w w' (w.heap.size+1) w vs vc av ev lv L j E T R ep) (fun _ s25 _=>L.length-(intOf s25).toNat)
 case atStart=>exact⟨0,_,_,_,_,_,_,_,Zo,rfl,rfl,E3.o⟩
 case round=>
  obtain⟨j,av,ev,lv,E,T,R,ep,hj,rfl,rfl,SE⟩:=hrel;have rR:=Zh SE;clear E3 k0;by_cases RN:j<L.length
  ·obtain⟨aa,ac,hav⟩:=Row.form (Row.Z4 SE.st.XX);obtain⟨ea,ec,hevv⟩:=Row.form (Row.Z4 SE.st.A0);obtain⟨la,lc,uI⟩:=Row.form (Row.Z4 SE.st.QM);subst hav;subst hevv;subst uI;have hhk:=SE.kk;have hhb:=SE.bb;have hKB:(w.heap.size+1)≠w.heap.size:=by omega
   generalize w.heap.size+1=k at *
   obtain⟨b,hbd0⟩:∃b,b=w.heap.size:=⟨_,rfl⟩;have jq:=Zh hbd0;clear hbd0;have wH:Hid (SS w wr k b vs vc (.slice aa (XZ L j).length ac) (.slice ea E.length ec) (.slice la (Zu L L.length j).length lc) L j E T R ep):=by rw[jq.o];exact SE
   obtain⟨g',off',cap',e1,-,-,-,V7⟩:=Rm.K4 (fun y:WE=>XJ y.x) 7 (fun _=>rfl) Zo SE.ops.row Zo;cases e1;have hy:L[j]?=some L[j]:=Ve RN;have V7:=V7 j _ hy;have gL:=HO.o.each L[j] (OC RN);have Ax:=Zh (fun sv=>zy hy SE.bare SE.eps sv);have zW:Hid (MQ L j=uq L[j].x.o L[j].b):=by show _=_;unfold MQ;rw[hy]
   have hbd2:=JL L j;rw[←SE.eps]at hbd2;have jC:=Zh (fun(T':ZO) (sv:Value) (h':WA T' (take R ep L[j].x.o L[j].b sv).1.2)=>uV (n:=L.length) (at':=j) Zo SE.inv SE.vM SE.sim ep L[j].x.o L[j].b sv h' SE.li);have Px:=Zh (fun sv=>BH SE.inv SE.vM ep L[j].x.o L[j].b sv);have HEP:=Zh (DG RN);have hEb:E.length≤256:=by have h2:=congrArg List.length SE.A0;rw[Tx]at h2;rw[h2];unfold Fq;rw[Tx,List.length_range];omega
   have HCN:Hid (Pr L (j+1)=(Pr L j).add (Z5 L j).XX.kind (Z5 L j).unknown):=rfl;have js:=Zh SE.uf;have HAS:=Zh (H7 L j);have HES:=Zh (ur L j);have HEE:=Zh SE.A0;have HLS:Hid (Zu L L.length (j+1)=Xd L.length j (Zu L L.length j) (Z5 L j).turns):=rfl;have hlen:=Sd L L.length j;have U8:(XZ L j).length≤256:=by rw[XK];omega
   have hcb:(Pr L j).Below 1000000000:=by
    obtain⟨⟨a1,a2⟩,⟨b1,b2⟩,⟨c1,c2⟩,⟨d1,d2⟩⟩:=SE.uf;exact⟨⟨a1,Zo⟩,⟨b1,Zo⟩,⟨c1,Zo⟩,⟨d1,Zo⟩⟩
   have Mf:=Zh SE.sim;have EPS:=Zh SE.eps;have oQ:=Zh wH.o.st;have T9:=Zh wH.o.ref;have Po:=Zh wH.o.Zf;have eO:=Zh wH.o.kk;have HQ4:=Zh wH.o.bb;have HINV:=Zh SE.inv;have HSLM:=Zh SE.vM;clear hy;generalize L[j]=y at *
   generalize Zu L L.length j=LS at *
   generalize XZ L j=A at *
   generalize Pr L j=c at *
   obtain⟨⟨⟨kd,p,s,q,nm,ss⟩,sa,sc,ba,bl,bc⟩,bs⟩:=y;dsimp only at gL Ax zW jC Px;obtain⟨L9,pZ,UT⟩:=gL;have NA:wr.rangeAt g' (off'+j*7) (Qa kd p s q (str nm) sa ss.length sc ba bl bc):=fun m v hm=>(V7 m (by have h:=(List.getElem?_eq_some_iff.1 hm).1;simpa using h)).trans hm
   have Cy:(j:Int)<(L.length:Int):=P6.2 RN;have hz:=Z9 wr (.cells (Qa 0 0 0 0 ⟨#[]⟩ none 0 0 none 0 0) 32);have SQ:=setRow_heap _ _ _ (Qa kd p s q (str nm) sa ss.length sc ba bl bc) _ _ hz;have VN:Hid (Below wr wr ((wr.alloc (.cells (Qa 0 0 0 0 ⟨#[]⟩ none 0 0 none 0 0) 32)).setRow wr (Qa kd p s q (str nm) sa ss.length sc ba bl bc))):=Z0 (Z' wr _) (Zw _) _;have iJ:Hid (MS w ((wr.alloc (.cells (Qa 0 0 0 0 ⟨#[]⟩ none 0 0 none 0 0) 32)).setRow wr (Qa kd p s q (str nm) sa ss.length sc ba bl bc)) k b wr (Qa kd p s q (str nm) sa ss.length sc ba bl bc) (Qw (some ⟨g',off',none⟩) L.length vc (.slice aa A.length ac) (.slice ea E.length ec) (.slice la LS.length lc) c.bad c.XA c.unknown c.refused 0 0 0 0 (some ⟨b,0,none⟩)) (.slice aa A.length ac) A (.slice ea E.length ec) E (.slice la LS.length lc) LS T):=⟨oQ.o.below VN.o,T9.o.below VN.o,SQ,Tr Po VN.o,eO.o,HQ4.o,Po.o.size⟩;clear V7 SE wH rR VN oQ T9 Po eO HQ4;go_upto_region 6 with(first|(with_reducible refine Zm NA underlying32 ?_)|(with_reducible refine Zs hz ?_))
   clear hz NA SQ;generalize((wr.alloc (.cells (Qa 0 0 0 0 ⟨#[]⟩ none 0 0 none 0 0) 32)).setRow wr (Qa kd p s q (str nm) sa ss.length sc ba bl bc))=w1 at *
   generalize wr.heap.size=ob at *
   have o6:w1.cell? ⟨ob,6,none⟩=some (.slice ba bl bc):=Zc iJ.o.op 6 rfl;have CS:=Zh (Dz _ bs w1 (XM.below pZ iJ.o.Zf));have eA:Hid (uq ⟨kd,p,s,q,nm,ss⟩ bs=if kd=1 then(XY bs).1 else .none):=rfl;generalize XY bs=SB at *
   obtain⟨D,er⟩:=SB;dsimp only at CS eA;go_upto_if 38 with(go_at_call 41;refine CS.o.mono ?_;rintro e w2 ⟨⟨a,rfl,Kt⟩,Zb⟩;obtain⟨cv,xv,pv,iv,rfl,Hk⟩:=xK.form Kt;obtain⟨⟨ca,cc,Hi⟩,⟨cO,cP,dS⟩,⟨pa,pc,My⟩⟩:=Vy.form Hk.p;obtain⟨ia,ic,Cx⟩:=YH.form Hk.i;dsimp only at Hi dS My Cx;subst Hi;subst dS;subst My;subst Cx;dsimp only[Xh,Sj,VJ,List.cons_append,Hz];have HRR:=Zh Hk;have Yg:=Zh Zb;have aw:=(Zb.block _ (ZX iJ.o.op)).trans iJ.o.op;have hob3:=((Z' w2 (.cells (Jw D.kd D.pk ca cc cO cP pa pc D.ds ia D.il.length ic) 84)).block _ (ZX aw)).trans aw;have o0:(w2.alloc (.cells (Jw D.kd D.pk ca cc cO cP pa pc D.ds ia D.il.length ic) 84)).cell? ⟨ob,0,none⟩=some (.int .i64 kd):=(Zc hob3 0 rfl);clear Kt Hk Zb aw hob3)
   have Li:=Z9 w2 (.cells (Jw D.kd D.pk ca cc cO cP pa pc D.ds ia D.il.length ic) 84);have Va:Hid (Below w1 w1 (w2.alloc (.cells (Jw D.kd D.pk ca cc cO cP pa pc D.ds ia D.il.length ic) 84))):=ZF Yg.o (Zw _) _;have eG:=Zh (iJ.o.below Va.o);have P5:Hid (Below w1 w1 ((w2.alloc (.cells (Jw D.kd D.pk ca cc cO cP pa pc D.ds ia D.il.length ic) 84)).setRow w2 (Ql 0 false 0 0 0 0 none 0 0 false 0 none 0 0 none 0 0 0 0 false false 0 none 0 0))):=Z0 Va.o Yg.o.size _;have HM5:=Zh (iJ.o.below P5.o);have HXR:=Zh (HRR.o.below (Z' w2 (.cells (Jw D.kd D.pk ca cc cO cP pa pc D.ds ia D.il.length ic) 84)))
   have hNE:∀g,(Value.slice ea E.length ec).ownBlock=some g→g≠w2.heap.size:=fun g hg=>by
    obtain⟨cur,hc⟩:=Wi iJ.o.st.A0 g hg;have h1:=ZX hc;have h2:=Yg.o.size;omega
   have hobe:ob≠w2.heap.size:=by have h1:=ZX iJ.o.op;have h2:=Yg.o.size;omega
   clear CS Yg HRR Va P5 o6;generalize hW4:(w2.alloc (.cells (Jw D.kd D.pk ca cc cO cP pa pc D.ds ia D.il.length ic) 84))=w4 at *
   generalize w2.heap.size=eb at *
   clear hW4;go_cut [] (fun wx=>∃x:Ag,x.e=uq ⟨kd,p,s,q,nm,ss⟩ bs∧G9 wx x∧wx.heap[eb]?=some (.cells (Xh x).toArray 84 (0,0))∧MS w wx k b ob (Qa kd p s q (str nm) sa ss.length sc ba bl bc) (Qw (some ⟨g',off',none⟩) L.length vc (.slice aa A.length ac) (.slice ea E.length ec) (.slice la LS.length lc) c.bad c.XA c.unknown c.refused 0 0 0 0 (some ⟨b,0,none⟩)) (.slice aa A.length ac) A (.slice ea E.length ec) E (.slice la LS.length lc) LS T)
   case first=>
    by_cases hk:kd=1
    ·have e1:(kd !=1)=false:=by rw[hk];rfl
     have hx:(⟨D,.slice ca D.pk.VF.length cc,.slice cO D.pk.ext.length cP,.slice pa D.pk.ZE.length pc,.slice ia D.il.length ic⟩:Ag).e=uq ⟨kd,p,s,q,nm,ss⟩ bs:=by rw[eA.o];exact(ZU hk).symm
     have HHX:=Zh hx;have iM:=Zh Li;clear hx hk Li;go_wp2_with fail
     go_meet;exact⟨_,HHX.o,HXR.o,iM.o,eG.o⟩
    ·have e1:(kd !=1)=true:=by rw[RH];exact hk
     have hx:(Ev.none)=uq ⟨kd,p,s,q,nm,ss⟩ bs:=by rw[eA.o];exact(Z3 hk).symm
     have HHX:=Zh hx;clear hx hk;go_wp2_with (first|(with_reducible refine Zs Li ?_))
     go_meet;exact⟨⟨.none,.slice none 0 0,.slice none 0 0,.slice none 0 0,.slice none 0 0⟩,HHX.o,⟨Vy.nil _,YH.nil _⟩,setRow_heap _ _ _ _ _ _ Li,HM5.o⟩
   case rest=>
    obtain⟨w5,rfl⟩:∃W:World,W=wc:=⟨_,rfl⟩;obtain⟨x,hxe,hxr,yH,Tj⟩:=hcut;have HXE:=Zh hxe;have HXR5:=Zh hxr;have HM5b:=Zh Tj;clear eG HM5 HXR Li o0 hxe eA;go_upto_region 9 with fail
    go_cut [] (fun wx=>∃(na:Option Addr) (nc:Nat),MS w wx k b ob (Qa kd p s q (str nm) sa ss.length sc ba bl bc) (Qw (some ⟨g',off',none⟩) L.length vc (.slice aa A.length ac) (.slice na (E.length+1) nc) (.slice la LS.length lc) c.bad c.XA c.unknown c.refused 0 0 0 0 (some ⟨b,0,none⟩)) (.slice aa A.length ac) A (.slice na (E.length+1) nc) (E++[x]) (.slice la LS.length lc) LS T)
    case first=>
     have oK:=Zh (Tj.below (YI _ _).drew);have Bf:=((YI w5 w5).drew.block _ (ZX yH)).trans yH;have HXRd:=Zh (hxr.below (YI _ _).drew);have ZB:Hid (∀w':World,w'.heap[k]?=some (.cells (Qw (some ⟨g',off',none⟩) L.length vc (.slice aa A.length ac) (.slice ea E.length ec) (.slice la LS.length lc) c.bad c.XA c.unknown c.refused 0 0 0 0 (some ⟨b,0,none⟩)) 44 (0,0))→w'.heap[eb]?=some (.cells (Xh x).toArray 84 (0,0))→w'.cell? ⟨k,2,none⟩=some (.slice ea E.length ec)∧w'.heap[eb]?=some (.cells (Xh x).toArray 84 (0,0))):=fun w' h1 h2=>⟨Zc h1 2 rfl,h2⟩
     clear Tj hxr;refine R5 ?_;refine Z_.Zj (d:=7) (S:=(fun w'=>w'.cell? ⟨k,2,none⟩=some (.slice ea E.length ec)∧w'.heap[eb]?=some (.cells (Xh x).toArray 84 (0,0)))) Zk ?_ (fun X7=>?_)
     ·exact ZB.o _ oK.o.st.Y8 Bf
     refine YP 0 (h:=YP 1 (h:=YP 2 (h:=YP 3 (h:=YK 4 (h:=?_)))));refine Z_.tk 5 ?_ rfl ?_ <| ?_
     rotate_left
     ·intro wS Ub;(try dsimp only at Ub)
      refine Vh 84 (.tmp 7) ?_ eb ?_ 84 (Xh x).toArray (0,0) _ Ub.2 underlying84 rfl Zk;all_goals rfl
     try simp only[Z_.pt]
     refine YR 6 (h:=fun K hK=>?_);refine Xe Zr kP (.tmp 45) Zr (Xh x).toArray Zr Zr Zd ?_;have eH:=Zh (oK.o.below (Z' w5.drew (.cells (Xh x).toArray 84)));have HXR6:=Zh (HXRd.o.below (Z' w5.drew (.cells (Xh x).toArray 84)));have mr:=((Z' w5.drew (.cells (Xh x).toArray 84)).block _ (ZX Bf)).trans Bf;refine Z_.Y9 hK _ _ ?_ (fun XC=>?_)
     ·first|exact ZB.o _ eH.o.st.Y8 mr|exact ZB.o _ oK.o.st.Y8 Bf
     clear hK K;try simp only[Z_.pt]
     refine YR 7 (h:=fun K hK=>?_);refine Ze Zr (.tmp 44) (.tmp 46) 38 Zr w kP (.slice ea E.length ec) E.length (E.flatMap Xh) Zr eH.o.st.A0 (.slice (some ⟨w5.drew.heap.size,0,none⟩) 1 1) 1 ([x].flatMap Xh) Zr (Yw _ _ 1 _ ([x].flatMap Xh) Zd rfl) rfl (U6 (l:=[x]) fun y hy=>by rw[J7.1 hy];exact fX HXRd.o) Zo Zo ?_ ?_
     ·exact eH.o.Zf.size
     intro v' w6 xh HG;have Nl:Hid (w6.ownsRow w 84 17 v' (E++[x]).length ((E++[x]).flatMap Xh)):=(by have h:=xh.o;rw[UG,OD];exact h);obtain⟨na,nc,Nr,-⟩:=Row.Z4 Nl.o;subst Nr;have E1:=Zh (eH.o.kV HG.o HXR6.o Nl.o);have c2:w6.cell? ⟨k,2,none⟩=some (.slice ea E.length ec):=Zc E1.o.st.Y8 2 rfl;have f2:w6.frozen? ⟨k,2,none⟩=false:=ZP E1.o.st.Y8 2;refine Z_.Yf hK _ _ Zk ?_;clear hK K;try simp only[Z_.pt]
     refine YP 8 (h:=YP 9 (h:=?_));refine YR 10 (h:=fun K hK=>?_);go_simp;refine Z_.Yf hK _ _ Zk ?_;clear hK K;try simp only[Z_.pt]
     refine Z_.Yx Zk ?_ _;refine QZ ?_;have h8:=E1.o.Gk 2 (.slice na (E++[x]).length nc);have ot:(E++[x]).length=E.length+1:=by simp
     rw[ot]at h8;have HM8:=Zh h8;clear h8;go_wp2_with fail
     go_meet;exact⟨na,nc,HM8.o⟩
    case rest=>
     obtain⟨w6,rfl⟩:∃W:World,W=wc:=⟨_,rfl⟩;obtain⟨na,nc,Ei⟩:=hcut;have eH:=Zh Ei;clear HM5b HXR5 Tj hxr yH hNE hobe;obtain⟨pv,sv,uv,dM,XF⟩:=Ei.ref.Vv;obtain⟨ua,uc,huv⟩:=Row.form XF.ZY;subst huv;have HWAS:=Zh XF.ZY;have b2:w6.cell? ⟨b,2,none⟩=some (.slice ua T.ZY.length uc):=Zc dM 2 rfl;have k12:w6.cell? ⟨k,12,none⟩=some (.pointer (some ⟨b,0,none⟩)):=Zc Ei.st.Y8 12 rfl;have Ab:=Ei.op;have CA:=Zh (pJ k b (some ⟨g',off',none⟩) L.length vc (.slice aa A.length ac) (.slice na (E.length+1) nc) (.slice la LS.length lc) c T R ep ⟨kd,p,s,q,nm,ss⟩ sa ba sc bl bc bs (.slice none 0 0) w6 Ei.st.Y8 Ei.ref Mf.o HINV.o HSLM.o (HT.o _ Ei.Zf) UT (L9.below Ei.Zf) (XM.below pZ Ei.Zf) hbd2.1 Zo hcb);obtain⟨hst1,aF,aG⟩:=Ax.o (.slice none 0 0);have HLV2:=Zh (fun T' h=>jC.o T' (.slice none 0 0) h);have xj:=Zh (Px.o (.slice none 0 0));have aJ:=Ng L j;clear dM XF Ei Ax jC Px;generalize take R ep ⟨kd,p,s,q,nm,ss⟩ bs (.slice none 0 0)=X at *
     obtain⟨⟨tk,R2⟩,ep2⟩:=X;dsimp only at hst1 aF aG HLV2 xj;subst hst1;generalize Z5 L j=tk at *
     have eU:=Zh aF;have oX:=Zh aG;have wu:=Zh hbd2;clear aF aG;unfold Ud at CA;dsimp only at CA;have Pp:tk.XX=⟨tk.XX.kind,tk.XX.source,tk.XX.NH,tk.XX.err⟩:=rfl;have J1:=Zh Pp;clear Pp;generalize tk.XX.kind=ak at *
     generalize tk.XX.source=as' at *
     generalize tk.XX.NH=ae at *
     generalize tk.XX.err=ar at *
     generalize tk.unknown=tu at *
     go_upto_if 63 with(first|(with_reducible refine Zl Ab underlying32 ?_)|(go_at_call 42;refine CA.o.mono ?_;rintro e w7 ⟨rfl,Cz,⟨T2,gY,aD⟩,gM⟩;have E1:=Zh (eH.o.room Cz gY gM);have HS7:=Zh aD;have a0:(w7.alloc (.cells (Qb ak as' ae ar) 35)).cell? ⟨w7,0,none⟩=some (.int .i64 ak):=(by rw[cell_of (Z9 w7 (.cells (Qb ak as' ae ar) 35)) 0];rfl);have HW7:=Zh (Row.fr HWAS.o gM (Zw _) (mQ (UZ (ts:=[105]) eH.o.st.Y8 Zd) (fun e he j' c' fr' hj' Ks=>by obtain⟨_,_,_,dM,_⟩:=eH.o.ref.Vv;exact UZ (ts:=[105]) dM Zd e he j' c' fr' hj' Ks) _ (J7.2 rfl)));clear Cz gY aD gM))
     clear CA eH HWAS Ab b2 k12;have Sn:=Z9 w7 (.cells (Qb ak as' ae ar) 35);have HM8:=Zh (E1.o.below (Z' w7 (.cells (Qb ak as' ae ar) 35)));have HW8:=Zh (Row.below HW7.o (Z' w7 (.cells (Qb ak as' ae ar) 35)))
     have hNA:∀g,(Value.slice aa A.length ac).ownBlock=some g→g≠w7.heap.size:=fun g hg=>by
      obtain⟨cur,hc⟩:=Wi E1.o.st.XX g hg;have h1:=ZX hc;omega
     clear E1 HW7;generalize hW8:(w7.alloc (.cells (Qb ak as' ae ar) 35))=w8 at *
     generalize w7.heap.size=ab at *
     clear hW8;obtain⟨hlv1,hlv2⟩:=HLV2.o T2 HS7.o;have HLV3:=Zh hlv1;have HLI3:=Zh hlv2;clear hlv1 hlv2 HLV2;go_cut [4] (fun s4 wx=>s4 = .int .i64 ep2∧wx=w8)
     case first=>
      rcases HEP.o with⟨h2,-,h3⟩|⟨h2,h3,-⟩
      ·have e1:(ak==2)=true:=by rw[beq_iff_eq];exact h2
       have e2:ep2=ep+1:=by rw[oX.o,h3,EPS.o]
       clear h2 h3;go_wp2_with fail
       go_meet;exact⟨by rw[e2],rfl⟩
      ·have e1:(ak==2)=false:=by rw[WM];exact h2
       have e2:ep2=ep:=by rw[oX.o,h3,EPS.o]
       clear h2 h3;go_wp2_with fail
       go_meet;exact⟨by rw[e2],rfl⟩
     case rest=>
      obtain⟨rfl,hcw⟩:=hcut;replace hcw:=hcw.symm;subst hcw;go_upto_region 14 with fail
      have HAB:=Zh Sn;go_cut [] (fun wx=>∃(ma:Option Addr) (mc:Nat),MS w wx k b ob (Qa kd p s q (str nm) sa ss.length sc ba bl bc) (Qw (some ⟨g',off',none⟩) L.length vc (.slice ma (A.length+1) mc) (.slice na (E.length+1) nc) (.slice la LS.length lc) (c.add ak tu).bad (c.add ak tu).XA (c.add ak tu).unknown (c.add ak tu).refused 0 0 0 0 (some ⟨b,0,none⟩)) (.slice ma (A.length+1) mc) (A++[⟨ak,as',ae,ar⟩]) (.slice na (E.length+1) nc) (E++[x]) (.slice la LS.length lc) LS T2∧wx.heap[ab]?=some (.cells (Qb ak as' ae ar) 35 (0,0))∧Row wx 105 (.slice ua T.ZY.length uc) T.ZY.length (T.ZY.flatMap Zq))
      case first=>
       have oK:=Zh (HM8.o.below (YI _ _).drew);have Bf:=((YI w8 w8).drew.block _ (ZX Sn)).trans Sn;have HWd:=Zh (Row.below HW8.o (YI w8 w8).drew);have ZB:Hid (∀w':World,w'.heap[k]?=some (.cells (Qw (some ⟨g',off',none⟩) L.length vc (.slice aa A.length ac) (.slice na (E.length+1) nc) (.slice la LS.length lc) (c.add ak tu).bad (c.add ak tu).XA (c.add ak tu).unknown (c.add ak tu).refused 0 0 0 0 (some ⟨b,0,none⟩)) 44 (0,0))→w'.heap[ab]?=some (.cells (Qb ak as' ae ar) 35 (0,0))→w'.cell? ⟨k,1,none⟩=some (.slice aa A.length ac)∧w'.heap[ab]?=some (.cells (Qb ak as' ae ar) 35 (0,0))):=fun w' h1 h2=>⟨Zc h1 1 rfl,h2⟩
       clear Sn;refine R5 ?_;refine Z_.Zj (d:=7) (S:=(fun w'=>w'.cell? ⟨k,1,none⟩=some (.slice aa A.length ac)∧w'.heap[ab]?=some (.cells (Qb ak as' ae ar) 35 (0,0)))) Zk ?_ (fun X7=>?_)
       ·exact ZB.o _ oK.o.st.Y8 Bf
       refine YP 0 (h:=YP 1 (h:=YP 2 (h:=YP 3 (h:=YK 4 (h:=?_)))));refine Z_.tk 5 ?_ rfl ?_ <| ?_
       rotate_left
       ·intro wS Ub;(try dsimp only at Ub)
        refine Vh 35 (.tmp 10) ?_ ab ?_ 35 (Qb ak as' ae ar) (0,0) _ Ub.2 underlying35 rfl Zk;all_goals rfl
       try simp only[Z_.pt]
       refine YR 6 (h:=fun K hK=>?_);refine Xe Zr NW (.tmp 71) Zr (Qb ak as' ae ar) Zr Zr Zd ?_;have jG:=Zh (oK.o.below (Z' w8.drew (.cells (Qb ak as' ae ar) 35)));have mr:=((Z' w8.drew (.cells (Qb ak as' ae ar) 35)).block _ (ZX Bf)).trans Bf;have HWs:=Zh (Row.below HWd.o (Z' w8.drew (.cells (Qb ak as' ae ar) 35)));refine Z_.Y9 hK _ _ ?_ (fun XC=>?_)
       ·first|exact ZB.o _ jG.o.st.Y8 mr|exact ZB.o _ oK.o.st.Y8 Bf
       clear hK K;try simp only[Z_.pt]
       refine YR 7 (h:=fun K hK=>?_);refine Ze Zr (.tmp 70) (.tmp 72) 37 Zr w NW (.slice aa A.length ac) A.length (A.flatMap VE) Zr jG.o.st.XX (.slice (some ⟨w8.drew.heap.size,0,none⟩) 1 1) 1 ([(⟨ak,as',ae,ar⟩:EJ)].flatMap VE) Zr (Yw _ _ 1 _ ([(⟨ak,as',ae,ar⟩:EJ)].flatMap VE) Zd rfl) rfl (U6 fun y _=>GJ y) Zo Zo ?_ ?_
       ·exact jG.o.Zf.size
       intro v' w9 xh HG;have Nl:Hid (w9.ownsRow w 35 4 v' (A++[(⟨ak,as',ae,ar⟩:EJ)]).length ((A++[(⟨ak,as',ae,ar⟩:EJ)]).flatMap VE)):=(by have h:=xh.o;rw[UG,OD];exact h);obtain⟨ma,mc,Nr,-⟩:=Row.Z4 Nl.o;subst Nr;have E1:=Zh (jG.o.Co HG.o Nl.o);have c1:w9.cell? ⟨k,1,none⟩=some (.slice aa A.length ac):=Zc E1.o.st.Y8 1 rfl;have f1:w9.frozen? ⟨k,1,none⟩=false:=ZP E1.o.st.Y8 1;have HAB9:=Zh ((HG.o.block _ (ZX mr) (fun e=>hNA _ e.symm rfl)).trans mr);have HW9:=Zh (Row.fr HWs.o (XS HG.o) (Zw _) (Y7 jG.o.st.XX Zd));refine Z_.Yf hK _ _ Zk ?_;clear hK K;try simp only[Z_.pt]
       refine YP 8 (h:=YP 9 (h:=?_));refine YR 10 (h:=fun K hK=>?_);go_simp;refine Z_.Yf hK _ _ Zk ?_;clear hK K;try simp only[Z_.pt]
       refine Z_.Yx Zk ?_ _;refine QZ ?_;have h8:=E1.o.Gk 1 (.slice ma (A++[(⟨ak,as',ae,ar⟩:EJ)]).length mc);have ot:(A++[(⟨ak,as',ae,ar⟩:EJ)]).length=A.length+1:=by simp
       rw[ot]at h8;have HM9:=Zh h8;have hkab:ab≠k:=fun e=>by have h1:=E1.o.st.Y8;rw[←e,HAB9.o]at h1;injection h1 with h1;injection h1 with _ h1;exact absurd h1 Zd
       have HAB10:=Zh ((Mg w9 ⟨k,1,none⟩ (.slice ma (A.length+1) mc) ab hkab).trans HAB9.o);have IK:=Zh (Row.fr HW9.o (Fr.setAt (Fr.refl w9 (· = k) w9) 1 (.slice ma (A.length+1) mc)) (Zw _) (UZ (ts:=[105]) E1.o.st.Y8 Zd _ (J7.2 rfl)));clear h8;go_wp2_with fail
       go_meet;exact⟨ma,mc,HM9.o,HAB10.o,IK.o⟩
      case rest=>
       obtain⟨Sm,rfl⟩:∃W:World,W=wc:=⟨_,rfl⟩;obtain⟨ma,mc,CX,si,hw10⟩:=hcut;have HM10:=Zh CX;have CO:=Zh (mV w k b (some ⟨g',off',none⟩) L.length vc (.slice ma (A.length+1) mc) (.slice na (E.length+1) nc) (.slice la LS.length lc) (.slice ua T.ZY.length uc) _ _ _ _ LS T2 T.ZY (j:Int) Sm CX.st.Y8 CX.ref CX.st.QM hw10);clear HM8 HW8 Sn HAB hNA hw10;go_upto_region 16 with(go_at_call 43;refine CO.o.mono ?_;rintro e EH ⟨rfl,ho11,hf11⟩;have HM11:=Zh (HM10.o.aY hf11 ho11);have hab11:=(hf11.block _ (ZX si) (fun e=>Y7 CX.st.QM Zd _ _ _ e si)).trans si;clear ho11 hf11)
       clear CO HM10 CX si;have a0b:EH.cell? ⟨ab,0,none⟩=some (.int .i64 ak):=Zc hab11 0 rfl;have Ab:=HM11.o.op;have o0:EH.cell? ⟨ob,0,none⟩=some (.int .i64 kd):=Zc Ab 0 rfl;have nX:Hid (TS L.length j T T2 ak ⟨kd,p,s,q,nm,ss⟩ LS=RA L.length j T2 T.ZY LS++if ak=2∧kd=6 then[⟨p,s,j,L.length⟩]else[]):=rfl;have HOL:=Zh (MB L.length j T2 T.ZY LS)
       have jw:Hid (∀(w':World) (Bl:Value),MS w w' k b ob (Qa kd p s q (str nm) sa ss.length sc ba bl bc) (Qw (some ⟨g',off',none⟩) L.length vc (.slice ma (A.length+1) mc) (.slice na (E.length+1) nc) Bl (c.add ak tu).bad (c.add ak tu).XA (c.add ak tu).unknown (c.add ak tu).refused 0 0 0 0 (some ⟨b,0,none⟩)) (.slice ma (A.length+1) mc) (A++[⟨ak,as',ae,ar⟩]) (.slice na (E.length+1) nc) (E++[x]) Bl (TS L.length j T T2 ak ⟨kd,p,s,q,nm,ss⟩ LS) T2→SS w w' k b (some ⟨g',off',none⟩) vc (.slice ma (A.length+1) mc) (.slice na (E.length+1) nc) Bl L (j+1) (E++[x]) T2 R2 ep2):=fun w' Bl h=>by
        have RV:(c.add ak tu).Below (8001*((j+1:Nat):Int)):=by
         have e8:8001*((j+1:Nat):Int)=8001*(j:Int)+8001:=by omega
         rw[e8];exact pI js.o ak xj.o.2.2.1 xj.o.2.2.2.1
        have wN:=h.st;refine⟨?_,h.ref,h.Zf,h.kk,h.bb,?_,HS7.o,xj.o.1,xj.o.2.1,eU.o,oX.o,by rw[HLS.o];exact HLI3.o,by rw[HCN.o];exact RV,HO.o.below h.Zf⟩
        ·rw[HCN.o,HAS.o,HLS.o,HLV3.o,J1.o];exact wN
        ·rw[Nv,HEE.o,HES.o,zW.o,←HXE.o];rfl
       generalize RA L.length j T2 T.ZY LS=OV at *
       by_cases hc:ak=2∧kd=6
       rotate_left
       ·have hRL:TS L.length j T T2 ak ⟨kd,p,s,q,nm,ss⟩ LS=OV:=by rw[nX.o,Z3 hc,rW]
        rw[hRL]at jw;have HFN:=Zh (jw.o EH _ HM11.o);clear nX hRL jw;have TN:ak≠2∨(ak=2∧kd≠6):=by by_cases a:ak=2 <;> by_cases b:kd=6 <;> simp[a,b];exact hc ⟨a,b⟩
        clear hc;rcases TN with h|⟨rfl,h⟩
        case' inl=>have e1:(ak==2)=false:=by rw[WM];exact h
        case' inr=>have e1:(kd==6)=false:=by rw[WM];exact h
        all_goals
         clear h;go_wp2_with fail
         go_roundw
         case rel=>exact⟨j+1,_,_,_,_,_,_,ep2,Zo,Zn,rfl,by have h:=HFN.o;rw[jq.o]at h;exact h⟩
         case measure=>simp[intOf];omega
       obtain⟨rfl,rfl⟩:=hc;have hRL:TS L.length j T T2 2 ⟨6,p,s,q,nm,ss⟩ LS=OV++[⟨p,s,j,L.length⟩]:=by rw[nX.o,ZU ⟨rfl,rfl⟩]
       rw[hRL]at jw;clear nX hRL;have hOVb:OV.length≤10000000:=by rw[HOL.o];omega
       go_upto_region 17 with fail
       have oK:=Zh (HM11.o.below (YI _ _).drew);have ZB:Hid (∀w':World,w'.heap[k]?=some (.cells (Qw (some ⟨g',off',none⟩) L.length vc (.slice ma (A.length+1) mc) (.slice na (E.length+1) nc) (.slice la LS.length lc) (c.add 2 tu).bad (c.add 2 tu).XA (c.add 2 tu).unknown (c.add 2 tu).refused 0 0 0 0 (some ⟨b,0,none⟩)) 44 (0,0))→w'.heap[ob]?=some (.cells (Qa 6 p s q (str nm) sa ss.length sc ba bl bc) 32 (0,0))→w'.cell? ⟨k,3,none⟩=some (.slice la LS.length lc)∧w'.cell? ⟨ob,1,none⟩=some (.int .i64 p)∧w'.cell? ⟨ob,2,none⟩=some (.int .i64 s)∧w'.cell? ⟨k,0,none⟩=some (.slice (some ⟨g',off',none⟩) L.length vc)):=fun w' h1 h2=>⟨Zc h1 3 rfl,Zc h2 1 rfl,Zc h2 2 rfl,Zc h1 0 rfl⟩
       refine R5 ?_;refine Z_.Zj (d:=17) (S:=(fun w'=>w'.cell? ⟨k,3,none⟩=some (.slice la LS.length lc)∧w'.cell? ⟨ob,1,none⟩=some (.int .i64 p)∧w'.cell? ⟨ob,2,none⟩=some (.int .i64 s)∧w'.cell? ⟨k,0,none⟩=some (.slice (some ⟨g',off',none⟩) L.length vc))) Zk ?_ (fun X7=>?_)
       ·exact ZB.o _ oK.o.st.Y8 oK.o.op
       refine YP 0 (h:=YP 1 (h:=YP 2 (h:=YP 3 (h:=YP 5 (h:=YP 7 (h:=YP 9 (h:=YP 10 (h:=YP 11 (h:=YP 12 (h:=YK 4 (h:=YK 6 (h:=YK 8 (h:=YK 13 (h:=YP 14 (h:=YP 15 (h:=?_))))))))))))))));refine YR 16 (h:=fun K hK=>?_);refine Xe Zr MP (.tmp 103) Zr (Qb p s (j:Int) (L.length:Int)) Zr Zr Zd ?_;have jG:=Zh (oK.o.below (Z' EH.drew (.cells (Qb p s (j:Int) (L.length:Int)) 59)));refine Z_.Y9 hK _ _ ?_ (fun XC=>?_)
       ·first|exact ZB.o _ jG.o.st.Y8 jG.o.op|exact ZB.o _ oK.o.st.Y8 oK.o.op
       clear hK K;try simp only[Z_.pt]
       refine YR 17 (h:=fun K hK=>?_);refine Ze Zr (.tmp 92) (.tmp 104) 39 Zr w MP (.slice la LS.length lc) OV.length (OV.flatMap Z8) Zr jG.o.st.QM (.slice (some ⟨EH.drew.heap.size,0,none⟩) 1 1) 1 ([(⟨p,s,(j:Int),(L.length:Int)⟩:Zx)].flatMap Z8) Zr (Yw _ _ 1 _ ([(⟨p,s,(j:Int),(L.length:Int)⟩:Zx)].flatMap Z8) Zd rfl) rfl (U6 fun y _=>FU y) Zo Zo ?_ ?_
       ·exact jG.o.Zf.size
       intro v' w12 xh HG;have Nl:Hid (w12.ownsRow w 59 4 v' (OV++[(⟨p,s,(j:Int),(L.length:Int)⟩:Zx)]).length ((OV++[(⟨p,s,(j:Int),(L.length:Int)⟩:Zx)]).flatMap Z8)):=(by have h:=xh.o;rw[UG,OD];exact h);obtain⟨da,dc,Nr,-⟩:=Row.Z4 Nl.o;subst Nr;have E1:=Zh (jG.o.ym HG.o Nl.o);have c3:w12.cell? ⟨k,3,none⟩=some (.slice la LS.length lc):=Zc E1.o.st.Y8 3 rfl;have f3:w12.frozen? ⟨k,3,none⟩=false:=ZP E1.o.st.Y8 3;refine Z_.Yf hK _ _ Zk ?_;clear hK K;try simp only[Z_.pt]
       refine YP 18 (h:=YP 19 (h:=?_));refine YR 20 (h:=fun K hK=>?_);go_simp;refine Z_.Yf hK _ _ Zk ?_;clear hK K;try simp only[Z_.pt]
       refine Z_.Yx Zk ?_ _;refine QZ ?_;have h8:=E1.o.Gk 3 (.slice da (OV++[(⟨p,s,(j:Int),(L.length:Int)⟩:Zx)]).length dc);have ot:(OV++[(⟨p,s,(j:Int),(L.length:Int)⟩:Zx)]).length=OV.length+1:=by simp
       rw[ot]at h8;have HFN:=Zh (jw.o _ _ h8);clear h8 ot;go_wp2_with fail
       go_roundw
       case rel=>exact⟨j+1,_,_,_,_,_,_,ep2,Zo,Zn,rfl,by have h:=HFN.o;rw[jq.o]at h;exact h⟩
       case measure=>simp[intOf];omega
  ·have Mi:j=L.length:=by omega
   subst Mi;clear SE;go_wp2;go_ret;exact⟨_,_,vs,vc,av,ev,lv,E,T,R,ep,rfl,rR.o⟩
end Go.Proofs.By
namespace Go.Proofs.By
open Go.RowKit Go.Proofs.Heap Go.Proofs
open Go.Proofs.Rm (ZM ZO Vn WA Inv Wn Room opens XJ YN Zq Tk Uw JM PJ Yw YL)
open Go.Proofs.ND (Xu)
open Go.Proofs.Mem
theorem jl{w0 w:World}{k b:Nat}{vs:Option Addr}{vc:Nat}{av ev lv:Value}{L:List WE}{E:List Ag}{T:ZO}{R:Room}{ep:Int}(hs:SS w0 w k b vs vc av ev lv L L.length E T R ep){j:Nat}(hj:j<L.length)(kd pr so:Int) :
  Calls prog 63 #[.pointer (some ⟨k,0,none⟩),.int .i64 (j:Int),.int .i64 kd,.int .i64 pr,.int .i64 so] w fun e w'=>e = .returned (.bool (Zt L j kd pr so))∧Below w w w':=by
 have yt:=Row.Z4 hs.st.XX;obtain⟨aa,ac,ha⟩:=Row.form yt;subst ha;rw[XK]at yt;obtain⟨g,o,e,V7⟩:=TI VE 4 (fun _=>rfl) (l:=XZ L L.length) yt (by rw[XK];omega);subst e;have hA:(XZ L L.length)[j]?=some (Z5 L j).XX:=by unfold XZ;rw[List.getElem?_map,List.getElem?_range hj];rfl
 have hak:=V7 j _ hA 0 Zo;obtain⟨g',off',cap',e1,-,-,-,pW⟩:=Rm.K4 (fun y:WE=>XJ y.x) 7 (fun _=>rfl) Zo hs.ops.row Zo;cases e1;have hy:L[j]?=some L[j]:=Ve hj;have pW:=pW j _ hy;have hOA:opAt L j=L[j].x.o:=by unfold opAt;rw[hy]
 have HD:Hid (Zt L j kd pr so=((((Z5 L j).XX.kind==2)&&(L[j].x.o.kind==kd))&&(L[j].x.o.source==so)&&((pr==0)||(L[j].x.o.peer==pr)))):=by show _=_;unfold Zt;rw[hOA];rfl
 have c0:w.cell? ⟨k,0,none⟩=some (.slice (some ⟨g',off',none⟩) L.length vc):=Zc hs.st.Y8 0 rfl;have c1:w.cell? ⟨k,1,none⟩=some (.slice (some ⟨g,o,none⟩) (XZ L L.length).length ac):=Zc hs.st.Y8 1 rfl;rw[XK]at c1;have hlk:=ZX hs.st.Y8;clear hA hy hOA yt V7 hs;generalize L[j]=y at *
 generalize Zt L j kd pr so=D at *
 generalize(Z5 L j).XX=A at *
 obtain⟨⟨⟨k0,p,s,q,nm,ss⟩,sa,sc,ba,bl,bc⟩,bs⟩:=y;dsimp only at HD;have NA:w.rangeAt g' (off'+j*7) (Qa k0 p s q (str nm) sa ss.length sc ba bl bc):=fun m v hm=>(pW m (by have h:=(List.getElem?_eq_some_iff.1 hm).1;simpa using h)).trans hm
 have hak:w.cell? ⟨g,o+j*4+0,none⟩=some (.int .i64 A.kind):=hak;rw[Z1g]at hak;have Cy:(j:Int)<(L.length:Int):=P6.2 hj;have hz:=Z9 w (.cells (Qa 0 0 0 0 ⟨#[]⟩ none 0 0 none 0 0) 32);have SQ:=setRow_heap _ _ _ (Qa k0 p s q (str nm) sa ss.length sc ba bl bc) _ _ hz;have HB:Hid (Below w w ((w.alloc (.cells (Qa 0 0 0 0 ⟨#[]⟩ none 0 0 none 0 0) 32)).setRow w (Qa k0 p s q (str nm) sa ss.length sc ba bl bc))):=Z0 (Z' w _) (Zw _) _;have GF:=Zh (ZG c1 HB.o);have HAK:=Zh (ZG hak HB.o);clear pW;go_enter func63,ntmps63;go_upto_region 2 with(first|(with_reducible refine Zm NA underlying32 ?_)|(with_reducible refine Zs hz ?_))
 have Nn:=Zh SQ;clear hz NA c0 SQ c1 hak hlk;generalize((w.alloc (.cells (Qa 0 0 0 0 ⟨#[]⟩ none 0 0 none 0 0) 32)).setRow w (Qa k0 p s q (str nm) sa ss.length sc ba bl bc))=w1 at *
 have x0:w1.cell? ⟨w,0,none⟩=some (.int .i64 k0):=Zc Nn.o 0 rfl;have x1:w1.cell? ⟨w,1,none⟩=some (.int .i64 p):=Zc Nn.o 1 rfl;have x2:w1.cell? ⟨w,2,none⟩=some (.int .i64 s):=Zc Nn.o 2 rfl;have c1:=GF.o;have hak:=HAK.o;cases YZ:(A.kind==2)with
 | false=>
  go_wp2;go_ret;exact⟨by rw[HD.o,YZ];rfl,HB.o⟩
 | true=>
  cases Zb:(k0==kd)with
  | false=>
   go_wp2;go_ret;exact⟨by rw[HD.o,YZ,Zb];rfl,HB.o⟩
  | true=>
   cases WT:(s==so)with
   | false=>
    go_wp2;go_ret;exact⟨by rw[HD.o,YZ,Zb,WT];rfl,HB.o⟩
   | true=>
    cases TW:(pr==0)with
    | true=>
     go_wp2;go_ret;exact⟨by rw[HD.o,YZ,Zb,WT,TW];rfl,HB.o⟩
    | false=>
     cases NI:(p==pr)with
     | false=>
      go_wp2;go_ret;exact⟨by rw[HD.o,YZ,Zb,WT,TW,NI];rfl,HB.o⟩
     | true=>
      go_wp2;go_ret;exact⟨by rw[HD.o,YZ,Zb,WT,TW,NI];rfl,HB.o⟩
theorem Is_any{w0 w:World}{k b:Nat}{vs:Option Addr}{vc:Nat}{av ev lv:Value}{L:List WE}{E:List Ag}{T:ZO}{R:Room}{ep:Int}(hs:SS w0 w k b vs vc av ev lv L L.length E T R ep)(hL:L.length≤256)(x:Zx)(at':Int) :
  Calls prog 57 (Qt (some ⟨k,0,none⟩) (Z8 x).toArray at') w fun e w'=>e = .returned (.bool (decide (x∈Zu L L.length L.length)&&there x at'))∧Below w w w':=by
 have hlr:=Row.Z4 hs.st.QM;obtain⟨la,lc,hl⟩:=Row.form hlr;subst hl;have hlb:(Zu L L.length L.length).length≤6144000:=PX (Sd L L.length L.length) Zo;have c3:w.cell? ⟨k,3,none⟩=some (.slice la (Zu L L.length L.length).length lc):=Zc hs.st.Y8 3 rfl;have HLR:=Zh hlr;have hlk:=ZX hs.st.Y8;clear hs hlr;generalize Zu L L.length L.length=LS at *
 obtain⟨xp,xs,xb,xf⟩:=x;dsimp only[Z8];have hz:=Z9 w (.cells (Qb xp xs xb xf) 59);have HB:Hid (Below w w (w.alloc (.cells (Qb xp xs xb xf) 59))):=Z' w _;have c3:=ZG c3 HB.o;have HZ:=Zh hz;clear hz;go_enter func57,ntmps57;go_wp2_with fail
 clear c3;have HLR1:=Zh (HLR.o.below HB.o);generalize(w.alloc (.cells (Qb xp xs xb xf) 59))=w1 at *
 go_loopw [14] (fun s14 w'=>∃m:Nat,m≤LS.length∧s14 = .int .i64 (m:Int)∧Below w1 w1 w'∧⟨xp,xs,xb,xf⟩ ∉ LS.take m) (fun s14 _=>LS.length-(intOf s14).toNat)
 case atStart=>exact⟨0,Zo,rfl,YI _ _,by simp⟩
 case round=>
  obtain⟨m,hm,rfl,Xz,qh⟩:=hrel;have tE:=Zh Xz;have HNOT:=Zh qh;by_cases Mj:m<LS.length
  ·obtain⟨gl,ol,el,V7⟩:=TI Z8 4 (fun _=>rfl) (HLR1.o.below Xz) Zo;subst el;have hx:LS[m]?=some LS[m]:=Ve Mj;have V7:=V7 m _ hx;have tI:=Zh Mj;have HIN:=Zh (OC Mj);have J1:Hid (LS.take (m+1)=LS.take m++[LS[m]]):=by show _=_;rw[List.take_add_one,hx];rfl
   clear hx qh;generalize LS[m]=y at *
   obtain⟨yp,ys,yb,yf⟩:=y;have NA:wr.rangeAt gl (ol+m*4) (Qb yp ys yb yf):=fun m' v' af=>(V7 m' (by have h:=(List.getElem?_eq_some_iff.1 af).1;simpa using h)).trans af
   have lL:(m:Int)<(LS.length:Int):=P6.2 Mj;have hz:=Z9 wr (.cells (Qb 0 0 0 0) 59);have SQ:=setRow_heap _ _ _ (Qb yp ys yb yf) _ _ hz;have Va:Hid (Below w1 w1 ((wr.alloc (.cells (Qb 0 0 0 0) 59)).setRow wr (Qb yp ys yb yf))):=Xz.trans ((Z0 (Z' wr _) (Zw _) _).mono Xz.size);clear V7 Xz;go_upto_region 4 with(first|(with_reducible refine Zm NA underlying59 ?_)|(with_reducible refine Zs hz ?_))
   clear hz NA;have Dd:=(Va.o.block _ (ZX HZ.o)).trans HZ.o;generalize((wr.alloc (.cells (Qb 0 0 0 0) 59)).setRow wr (Qb yp ys yb yf))=w4 at *
   by_cases he:(⟨yp,ys,yb,yf⟩:Zx)=⟨xp,xs,xb,xf⟩
   ·injection he with q1 q2 q3 q4
    subst q1;subst q2;subst q3;subst q4;have x2:w4.cell? ⟨w,2,none⟩=some (.int .i64 yb):=Zc Dd 2 rfl;have x3:w4.cell? ⟨w,3,none⟩=some (.int .i64 yf):=Zc Dd 3 rfl;cases h5:decide (yb<at')
    ·go_wp2_with (first|(with_reducible refine Zl SQ underlying59 ?_)|(with_reducible refine Zl Dd underlying59 ?_))
     go_ret;exact⟨by rw[Ww HIN.o];unfold there;rw[h5];rfl,Tr HB Va.o⟩
    ·cases h6:decide (at'≤yf)
     all_goals
      go_wp2_with (first|(with_reducible refine Zl SQ underlying59 ?_)|(with_reducible refine Zl Dd underlying59 ?_))
      go_ret;exact⟨by rw[Ww HIN.o];unfold there;rw[h5,h6];rfl,Tr HB Va.o⟩
   ·have hd:(yp==xp)=false∨((yp==xp)=true∧(ys==xs)=false)∨((yp==xp)=true∧(ys==xs)=true∧(yb==xb)=false)∨((yp==xp)=true∧(ys==xs)=true∧(yb==xb)=true∧(yf==xf)=false):=by
     simp only[WM,beq_iff_eq];by_cases e1:yp=xp
     ·by_cases e2:ys=xs
      ·by_cases e3:yb=xb
       ·exact WB (WB (WB ⟨e1,e2,e3,fun e4=>he (by rw[e1,e2,e3,e4])⟩))
       ·exact WB (WB (WO ⟨e1,e2,e3⟩))
      ·exact WB (WO ⟨e1,e2⟩)
     ·exact WO e1
    have HNE:=Zh he;clear he;rcases hd with h1|⟨h1,h2⟩|⟨h1,h2,h3⟩|⟨h1,h2,h3,h4⟩
    all_goals
     go_wp2_with (first|(with_reducible refine Zl SQ underlying59 ?_)|(with_reducible refine Zl Dd underlying59 ?_))
     go_roundw
     case rel=>exact⟨m+1,tI.o,Zn,Va.o,by rw[J1.o,EN,J7];exact fun h=>h.elim HNOT.o (fun h=>HNE.o h.symm)⟩
     case measure=>have:=tI.o;simp[intOf];omega
  ·have gW:m=LS.length:=by omega
   clear Xz;subst gW;go_wp2;go_ret;exact⟨by have h:=HNOT.o;rw[n9]at h;rw[Wz h];rfl,Tr HB tE.o⟩
end Go.Proofs.By
namespace Go.Proofs.By
open Go.Proofs.Rm (Room YF)
theorem nB{L:List WE}{k:Nat}{y:WE}(hy:L[k]?=some y):Z5 L k=(take (Yd L k).1 (Yd L k).2 y.x.o y.b (.slice none 0 0)).1.1∧Yd L (k+1)=((take (Yd L k).1 (Yd L k).2 y.x.o y.b (.slice none 0 0)).1.2.bare,(take (Yd L k).1 (Yd L k).2 y.x.o y.b (.slice none 0 0)).2):=by
 constructor
 ·unfold Z5;rw[hy]
 ·conv=>lhs;unfold Yd
  rw[hy]
open Go.Proofs.Rm (Inv Wn opens WZ Pq pP Rj WG turns)
theorem mD{R:Room}(h:Inv R):Inv R.bare:=⟨h.QN,h.Y6,h.YV,h.apart,h.nameAt,h.keys⟩
theorem ry{R:Room}(h:Wn R):Wn R.bare:=⟨h.short⟩
theorem sZ(L:List WE):∀k,Inv (Yd L k).1∧Wn (Yd L k).1
 | 0=>⟨Rm.Tk,Rm.Uw⟩
 | k+1=>by
  have ih:=sZ L k;cases hy:L[k]? with
  | none=>
   have e:Yd L (k+1)=Yd L k:=by
    conv=>lhs;unfold Yd
    rw[hy]
   rw[e];exact ih
  | some y=>
   rw[(nB hy).2];have h:=BH ih.1 ih.2 (Yd L k).2 y.x.o y.b (.slice none 0 0);exact⟨mD h.1,ry h.2.1⟩
def Ends(R R':Room)(ts:List YF):Prop:=Rm.Good (opens R) ts (opens R')∧∀t∈ts,t.kind≠1
def Begins(R R':Room)(o:Rm.Op)(ts:List YF):Prop:=o.kind=6∧(∃t2:YF,ts=[⟨1,o.peer,o.source,o.ZI,0⟩,t2]∧(t2.kind=6∨t2.kind=9))∧opens R (o.peer,o.source)=false∧opens R'=fun x=>decide (x=(o.peer,o.source))||opens R x
theorem rA{R:Room}(hI:Inv R)(hs:Wn R)(ep:Int)(o:Rm.Op)(b:List UInt8)(sv:Value):Ends R (take R ep o b sv).1.2 (take R ep o b sv).1.1.turns∨((take R ep o b sv).1.1.XX.kind=2∧Begins R (take R ep o b sv).1.2 o (take R ep o b sv).1.1.turns):=by
 have still:Ends R R []:=⟨Rm.Good.nil _,fun t h=>by cases h⟩;by_cases k1:o.kind=1
 ·have e:take R ep o b sv=YJ R ep o.peer b:=by unfold take;rw[ZU k1]
  rw[e]
  left
  unfold YJ;by_cases h1:(XY b).2≠0
  ·rw[ZU h1];exact still
  rw[Z3 h1];by_cases h2:(!Rm.Y_ R o.peer)=true
  ·rw[ZU h2];exact still
  rw[Z3 h2];cases hv:(XY b).1 with
  | none=>exact still
  | XT p d=>
   have e2:(VW R ep o.peer p d).turns=[]:=by unfold VW;split <;> rfl
   show Ends R R (VW R ep o.peer p d).turns;rw[e2];exact still
  | Yb l=>
   have We:=vL hv;exact N7 o.peer l R hI hs We
 ·have e:take R ep o b sv=if(WG R o sv).2≠0 then((Yi 6 (WG R o sv).2,R),ep)else((Uq (ep+1) [] (WG R o sv).1.1 0,(WG R o sv).1.2),ep+1):=by unfold take;rw[Z3 k1]
  rw[e];by_cases h1:(WG R o sv).2≠0
  ·rw[ZU h1];exact WO still
  rw[Z3 h1];have hg:=Rm.x_ hI o sv;by_cases k6:o.kind=6
  ·right
   have hd:WG R o sv=(turns R o sv,0):=by
    unfold WG at h1 ⊢;split
    ·next hx=>rw[ZU hx]at h1;exact absurd hx (by simpa using h1)
    ·rfl
   have ht:turns R o sv=Rm.begin R o:=by
    unfold turns;dsimp only;rw[Z3 Zo,Z3 Zo,Z3 Zo,Z3 Zo,ZU k6]
   rw[hd,ht]at hg ⊢;obtain⟨g1,g2⟩:=hg
   obtain⟨t2,ht2,Bb⟩:∃t2:YF,(Rm.begin R o).1=[⟨1,o.peer,o.source,o.ZI,0⟩,t2]∧(t2.kind=6∨t2.kind=9):=by
    unfold Rm.begin;dsimp only;split
    ·exact⟨_,rfl,WO rfl⟩
    ·exact⟨_,rfl,WB rfl⟩
   dsimp only at g1 g2;rw[ht2]at g1 g2
   have hS:opens R (o.peer,o.source)=false:=by
    have:=g1.1;unfold pP at this;rw[ZU rfl]at this;have:=(UW _ _ |>.mp this).2;simpa[Rj]using this
   have e2:opens (Rm.begin R o).2=fun x=>decide (x=(o.peer,o.source))||opens R x:=by
    exact cA
   exact⟨rfl,k6,⟨t2,ht2,Bb⟩,hS,e2⟩
  ·left
   have hb:∀t∈(WG R o sv).1.1,t.kind≠1:=by
    unfold WG;split
    ·intro t ht;cases ht
    ·exact IE R o sv k6
   exact⟨hg,hb⟩
theorem FY(L:List WE)(n:Int){k:Nat}(hk:k<L.length)(hn:(k:Int)<n)(hl:LI n (opens (Yd L k).1) (Zu L n k)) :
  LI n (opens (Yd L (k+1)).1) (Zu L n (k+1)) ∧
  ((∃dead,Zu L n (k+1)=XI n k dead (Zu L n k))∨((Z5 L k).XX.kind=2∧(opAt L k).kind=6∧Zu L n (k+1)=Zu L n k++[⟨(opAt L k).peer,(opAt L k).source,k,n⟩])):=by
 have hy:L[k]?=some L[k]:=Ve hk;obtain⟨e1,e2⟩:=nB hy;have e3:opAt L k=L[k].x.o:=by unfold opAt;rw[hy]
 obtain⟨hI,hs⟩:=sZ L k;have V7:(k:Int)≠n:=by omega
 have uI:Zu L n (k+1)=Xd n k (Zu L n k) (Z5 L k).turns:=rfl;have ho:opens (Yd L (k+1)).1=opens (take (Yd L k).1 (Yd L k).2 L[k].x.o L[k].b (.slice none 0 0)).1.2:=by rw[e2];rfl
 rw[ho,uI,e1,e3];rcases rA hI hs (Yd L k).2 L[k].x.o L[k].b (.slice none 0 0)with⟨⟨g1,g2⟩,hb⟩|⟨ha,k6,⟨t2,ht,Bb⟩,hS,h2⟩
 ·have h1:=Rl V7 _ _ _ hl g1 hb;rw[g2]at h1;exact⟨h1.2,WO ⟨_,h1.1⟩⟩
 ·rw[ht]
  have e5:Xd n k (Zu L n k) [⟨1,L[k].x.o.peer,L[k].x.o.source,L[k].x.o.ZI,0⟩,t2]=Zu L n k++[⟨L[k].x.o.peer,L[k].x.o.source,k,n⟩]:=by
   show Yr n k (Yr n k (Zu L n k) ⟨1,L[k].x.o.peer,L[k].x.o.source,L[k].x.o.ZI,0⟩) t2=_;have a1:Yr n k (Zu L n k) ⟨1,L[k].x.o.peer,L[k].x.o.source,L[k].x.o.ZI,0⟩=Zu L n k++[⟨L[k].x.o.peer,L[k].x.o.source,k,n⟩]:=rfl;rw[a1];unfold Yr;rw[Z3 Zo,Z3 Zo]
  rw[e5,h2];exact⟨hl.begin _ _ _ hS,WB ⟨ha,k6,rfl⟩⟩
theorem Dj(L:List WE):∀k,k≤L.length→LI L.length (opens (Yd L k).1) (Zu L L.length k)
 | 0,_=>by
  have e:opens (Yd L 0).1=fun _=>false:=Rm.PJ
  rw[e];exact LI.nil _
 | k+1,hk=>(FY L L.length Zo Zo (Dj L k Zo)).1
end Go.Proofs.By
