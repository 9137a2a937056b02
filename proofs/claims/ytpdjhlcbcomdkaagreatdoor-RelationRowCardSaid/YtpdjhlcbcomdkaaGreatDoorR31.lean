/- Part of a proof. -/
import Derived.Test.YtpdjhlcbcomdkaaGreatDoorR30
set_option linter.unusedVariables false
set_option linter.unusedSimpArgs false
set_option maxRecDepth 100000
set_option maxHeartbeats 16000000
open Go Go.Q Go.Qr
namespace Go.Proofs.By
open Go.RowKit Go.Proofs.Heap Go.Proofs
open Go.Proofs.Rm (below_drewN YL)
structure SO (w w':World) (K:Nat) (z:vJ) (o0 ov:Value):Prop where
 Zg:Below w w w'
 Y8:w'.heap[K]?=some (.cells #[o0,.int .i64 z.opn,.int .u32 z.begin,.int .u16 z.Uv] 162 (0,0))
 own:w'.ownsRow w 70 6 ov z.o.length (z.o.flatMap Vp)
 ge:w.heap.size≤K
section
variable {w w1 w2:World} {K:Nat} {z:vJ} {o0 ov:Value}
theorem SO.below (h:SO w w1 K z o0 ov) (hb:Below w1 w1 w2):SO w w2 K z o0 ov:=⟨h.Zg.trans (hb.mono h.Zg.size),(hb.block _ (ZW h.Y8)).trans h.Y8,Yw h.own hb,h.ge⟩
theorem SO.facts (h:SO w w1 K z o0 ov):w1.cell? ⟨K,0,none⟩=some o0∧w1.cell? ⟨K,1,none⟩=some (.int .i64 z.opn)∧w1.cell? ⟨K,2,none⟩=some (.int .u32 z.begin)∧w1.cell? ⟨K,3,none⟩=some (.int .u16 z.Uv):=
 ⟨Zc h.Y8 0 rfl,Zc h.Y8 1 rfl,Zc h.Y8 2 rfl,Zc h.Y8 3 rfl⟩
theorem SO.set (h:SO w w1 K z o0 ov) (o:Nat) (u:Value) (z':vJ) (o0':Value) (hz:z'.o=z.o) (hs:[o0,.int .i64 z.opn,.int .u32 z.begin,.int .u16 z.Uv].set o u=[o0',.int .i64 z'.opn,.int .u32 z'.begin,.int .u16 z'.Uv]):SO w (w1.setCell ⟨K,o,none⟩ u) K z' o0' ov:=by
 have h2:=VH h.Y8 o u;rw [List.setIfInBounds_toArray,hs] at h2;refine ⟨((Fr.Z7 PN h.Zg).setCell (p:=⟨K,o,none⟩) (Ws h.ge) _).below,h2,?_,h.ge⟩;rw [hz];refine XQ h.own (fun i hi=>MH w1 ⟨K,o,none⟩ u i (fun e=>?_));have e:i=K:=e;subst e;exact Za h.own Zd _ _ _ hi h.Y8
theorem SO.grow (h:SO w w1 K z o0 ov) (hg:w1.grownBy w2 ov.ownBlock) {ov':Value} {l:List Hs} (ho:w2.ownsRow w 70 6 ov' l.length (l.flatMap Vp)):SO w w2 K {z with o:=l} o0 ov':=
 ⟨((Fr.Z7 PN h.Zg).grown hg h.Zg.size (YL h.own)).below,(hg.block _ (ZW h.Y8) (fun e=>Za h.own Zd _ _ _ e.symm h.Y8)).trans h.Y8,ho,h.ge⟩
end
theorem jF (e:Hs):∀ u∈Vp e,u.oneCell'=true:=by
 intro u hu;simp only [Vp,KN,List.mem_nil_iff,or_false] at hu;rcases hu with rfl|rfl|rfl|rfl|rfl|rfl <;> rfl
section
variable {w:World} {V k:Nat} {ov av mv lv:Value} {L:List V7} {x:Zu} {wv cv qv:Value}
theorem OO (h:VB w V k ov av mv lv L x wv cv qv) {j:Nat} (hj:j<L.length) (hL:L.length≤256) {s:VS} (hs:fu w wv cv qv j s) (K:Nat) (z:vJ) (uv:Value) (w1:World) (qN:SO w w1 K z uv uv) (Wq:F9 j z) :
  Calls Tryz.prog 91 #[.pointer (some ⟨V,0,none⟩),.pointer (some ⟨K,0,none⟩),.int .i64 (j:Int)] w1 fun e w2=>e = .returned (.tuple #[])∧∃ lJ,SO w w2 K (Lt L x s z j) lJ lJ:=by
 obtain ⟨g,o,c,a1,n1,c1,a2,n2,c2,a3,n3,c3,oF,hm⟩:=Kh h hj;subst oF;have CN0:=Zh (fun (w':World) (hb:Below w w w')=>Tz (h.below hb) hj (hs.below hb));have HV:=Zh h.view;have DA:=Zh h.book;have mg:=Zh (fun (q:Nat) (hq:q<L.length)=>Kh h hq);have bn:=Zh (AG Wq);have hlen:=Wq.len;have HX:Hid (Lt L x s z j={SM z j (VY s (Z5 L j).WJ) (Z5 L j).WJ.start with o:=z.o++[rZ L x (SM z j (VY s (Z5 L j).WJ) (Z5 L j).WJ.start) j (VY s (Z5 L j).WJ)]}):=rfl;have zW:(j:Int)<(L.length:Int):=OP.2 hj;clear h hs Wq;generalize Lt L x s z j=X at *
 obtain ⟨xp,xs,xb,xf⟩:=x;dsimp only at HV;have HEM:Hid (∀ r op,rZ L ⟨xp,xs,xb,xf⟩ r j op=⟨j,IntKind.u16.wrap r.o.length,IntKind.u32.wrap (IntKind.u32.wrap ((Z5 L j).XW.time-(Z5 L r.opn.toNat).XW.time)+r.begin),Xj xp xs,IntKind.u16.wrap (r.Uv-1),op⟩):=fun _ _=>rfl
 generalize VY s (Z5 L j).WJ=op at *
 have Cm:w1.rangeAt g (o+j*15) (Qg (Z5 L j).XW.XP (Z5 L j).XW.type (Z5 L j).XW.seq (Z5 L j).XW.time (Z5 L j).XW.YE a1 n1 c1 (Z5 L j).XW.XO (Z5 L j).XW.Yl a2 n2 c2 a3 n3 c3 (Z5 L j).XW.pad (Z5 L j).WJ.ZH (Z5 L j).WJ.key (Z5 L j).WJ.start (Z5 L j).WJ.frame):=fun m v hv=>Yp (hm m v hv) qN.Zg
 generalize (Z5 L j).XW=P at *
 generalize (Z5 L j).WJ=D at *
 have hz:=Z8 w1 (.cells UM 97);have mD:Hid (SO w ((w1.alloc (.cells UM 97)).setRow w1.heap.size (Ju P.XP P.type P.seq P.time P.YE a1 n1 c1 P.XO P.Yl a2 n2 c2 a3 n3 c3 P.pad D)) K z uv uv):=qN.below (Z3 (Z' w1 _) (Zw _) _);have HT2:Hid (((w1.alloc (.cells UM 97)).setRow w1.heap.size (Ju P.XP P.type P.seq P.time P.YE a1 n1 c1 P.XO P.Yl a2 n2 c2 a3 n3 c3 P.pad D)).heap[w1.heap.size]?=some (.cells (Ju P.XP P.type P.seq P.time P.YE a1 n1 c1 P.XO P.Yl a2 n2 c2 a3 n3 c3 P.pad D) 97 (0,0))):=setRow_heap _ _ _ (Ju P.XP P.type P.seq P.time P.YE a1 n1 c1 P.XO P.Yl a2 n2 c2 a3 n3 c3 P.pad D) _ _ hz;have v0:w1.cell? ⟨V,0,none⟩=some (.pointer (some ⟨k,0,none⟩)):=by rw [cell_of ((qN.Zg.block _ (ZW HV.o)).trans HV.o) 0];rfl
 have b2:w1.cell? ⟨k,2,none⟩=some (.slice (some ⟨g,o,none⟩) L.length c):=by rw [cell_of ((qN.Zg.block _ (ZW DA.o)).trans DA.o) 2];rfl
 clear hm qN;go_enter Tryz.func91,Tryz.ntmps91;go_upto_region 1 with (first|(with_reducible refine Zj 97 (.tmp 17) rfl ?_;refine wpList_load_mid rfl 97 (.tmp 17) rfl g (o+j*15) rfl (Ju P.XP P.type P.seq P.time P.YE a1 n1 c1 P.XO P.Yl a2 n2 c2 a3 n3 c3 P.pad D) _ Cm Tryz.underlying97 rfl ZB ?_)|(with_reducible refine ZU 97 (.tmp 6) (.tmp 18) rfl ?_;refine ZV rfl 97 (.tmp 6) (.tmp 18) rfl rfl w1.heap.size (Ju P.XP P.type P.seq P.time P.YE a1 n1 c1 P.XO P.Yl a2 n2 c2 a3 n3 c3 P.pad D) rfl rfl 97 UM hz ZB ZB ZB ?_))
 clear hz Cm v0 b2;generalize ((w1.alloc (.cells UM 97)).setRow w1.heap.size (Ju P.XP P.type P.seq P.time P.YE a1 n1 c1 P.XO P.Yl a2 n2 c2 a3 n3 c3 P.pad D))=w2 at *
 generalize w1.heap.size=T at *
 obtain ⟨out,opn,jC,st0⟩:=z;obtain ⟨ua,uc,rfl⟩:=Row.form (Row.Z6 mD.o.own);dsimp only at HX bn hlen mD;have CN:=Zh (CN0.o w2 mD.o.Zg);clear CN0;go_upto_if 22 with (go_at_call 89;refine CN.o.mono ?_;rintro e w3 ⟨rfl,VJ⟩;have BD:=Zh (mD.o.below VJ);have ld:Hid (w3.heap[T]?=some (.cells (Ju P.XP P.type P.seq P.time P.YE a1 n1 c1 P.XO P.Yl a2 n2 c2 a3 n3 c3 P.pad D) 97 (0,0))):=(VJ.block _ (ZW HT2.o)).trans HT2.o;clear VJ mD HT2)
 go_cut [] (fun wx=>SO w wx K ⟨out,if op then j else opn,if op then (if 0<out.length then IntKind.u32.wrap ((RI out).time+3000) else jC) else jC,st0⟩ (.slice ua out.length uc) (.slice ua out.length uc)∧wx.heap[T]?=some (.cells (Ju P.XP P.type P.seq P.time P.YE a1 n1 c1 P.XO P.Yl a2 n2 c2 a3 n3 c3 P.pad D) 97 (0,0)))
 case first=>
  cases op with
  | false=>
   go_wp2_with fail
   go_meet;exact ⟨BD.o,ld.o⟩
  | true=>
   obtain ⟨u0,u1,u2,u3⟩:=BD.o.facts;have f1:=ZO BD.o.Y8 1;have f2:=ZO BD.o.Y8 2
   have hKT:T≠K:=fun e=>by
    have h1:=ld.o;rw [e,BD.o.Y8] at h1;injection h1 with h1
    injection h1 with _ h1
    exact absurd h1 Zd
   by_cases hl:0<out.length
   ·obtain ⟨m,hm⟩:∃ m,out.length=m+1:=⟨out.length-1,Zo⟩;obtain ⟨ge,oe,j4,-,x2⟩:=nM (m:=m) (Row.Z6 BD.o.own) (by show m<out.length;omega);subst j4;have HLA:Hid (RI out=out.getD m Sk):=by show _=_;unfold RI;rw [hm];rfl
    have lG:IntKind.i64.wrap ((out.length:Int)-1)=(m:Int):=by rw [Tm _ Zo];omega
    have kp:(m:Int)<(out.length:Int):=by omega
    have hmN:m<out.length:=by omega
    have dl:decide (0<(out.length:Int))=true:=Wi Zo;have hl1:((out.length:Int)-1)=(m:Int):=by omega
    have HH:Hid (0<out.length):=hl;dsimp only at x2;generalize out.getD m Sk=E at *
    clear hm hl;go_wp2_with fail
    go_meet;rw [ZR trivial,ZR trivial,ZR HH.o,HLA.o,NI];exact ⟨(BD.o.set 1 (.int .i64 (j:Int)) ⟨out,j,jC,st0⟩ _ rfl rfl).set 2 _ ⟨out,j,(E.time+3000) % 4294967296,st0⟩ _ rfl rfl,(MH _ ⟨K,2,none⟩ _ T hKT).trans ((MH _ ⟨K,1,none⟩ _ T hKT).trans ld.o)⟩
   ·have dl:decide (0<(out.length:Int))=false:=WI Zo;have dl2:decide (0<out.length)=false:=WI hl;have HH:Hid (¬0<out.length):=hl;clear hl;go_wp2_with fail
    go_meet;rw [ZR trivial,ZR trivial,Z4 HH.o];exact ⟨BD.o.set 1 (.int .i64 (j:Int)) ⟨out,j,jC,st0⟩ _ rfl rfl,(MH _ ⟨K,1,none⟩ _ T hKT).trans ld.o⟩
 case rest=>
  obtain ⟨w4,rfl⟩:∃ W:World,W=wc:=⟨_,rfl⟩;have ru:=Zh hcut.1;have HT4:=Zh hcut.2;clear hcut BD ld;have hrd:=(bn.o op D.start).1;have HXR:Hid (∀ st,SM ⟨out,opn,jC,st0⟩ j op st=⟨out,if op then j else opn,if op then (if 0<out.length then IntKind.u32.wrap ((RI out).time+3000) else jC) else jC,if st then IntKind.u16.wrap (st0+1) else st0⟩):=fun _=>rfl
  rw [HXR.o] at hrd;dsimp only at hrd;generalize (if op then (if 0<out.length then IntKind.u32.wrap ((RI out).time+3000) else jC) else jC)=bg at *
  generalize hq:(if op then (j:Int) else opn)=oq at *
  obtain ⟨q,rfl⟩:∃ q:Nat,oq=(q:Int):=⟨oq.toNat,Zo⟩;have dG:q<L.length:=by omega
  clear hrd bn hq;have y13:w4.cell? ⟨T,13,none⟩=some (.bool D.start):=Zc HT4.o 13 rfl;go_upto_if 50 with fail
  clear y13;go_cut [] (fun wx=>SO w wx K ⟨out,q,bg,if D.start then IntKind.u16.wrap (st0+1) else st0⟩ (.slice ua out.length uc) (.slice ua out.length uc)∧wx.heap[T]?=some (.cells (Ju P.XP P.type P.seq P.time P.YE a1 n1 c1 P.XO P.Yl a2 n2 c2 a3 n3 c3 P.pad D) 97 (0,0)))
  case first=>
   have hKT:T≠K:=fun e=>by
    have h1:=HT4.o;rw [e,ru.o.Y8] at h1;injection h1 with h1
    injection h1 with _ h1
    exact absurd h1 Zd
   obtain ⟨u0,u1,u2,u3⟩:=ru.o.facts;have f3:=ZO ru.o.Y8 3;dsimp only at u3;obtain ⟨dly,dke,dst,dfm⟩:=D;cases dst with
   | false=>
    go_wp2_with fail
    go_meet;exact ⟨ru.o,HT4.o⟩
   | true=>
    go_wp2_with fail
    go_meet;rw [ZR trivial];exact ⟨ru.o.set 3 _ ⟨out,q,bg,IntKind.u16.wrap (st0+1)⟩ _ rfl rfl,(MH _ ⟨K,3,none⟩ _ T hKT).trans HT4.o⟩
  case rest=>
   obtain ⟨w5,rfl⟩:∃ W:World,W=wc:=⟨_,rfl⟩;have y9:=Zh (hcut.1.below (YJ _ _).drew);have HT5:Hid (w5.drew.heap[T]?=some (.cells (Ju P.XP P.type P.seq P.time P.YE a1 n1 c1 P.XO P.Yl a2 n2 c2 a3 n3 c3 P.pad D) 97 (0,0))):=hcut.2;clear hcut ru HT4;have HXF:Hid (X=⟨out++[rZ L ⟨xp,xs,xb,xf⟩ ⟨out,q,bg,if D.start then IntKind.u16.wrap (st0+1) else st0⟩ j op],q,bg,if D.start then IntKind.u16.wrap (st0+1) else st0⟩):=by show _=_;rw [HX.o,HXR.o]
   rw [HEM.o] at HXF;generalize (if D.start then IntKind.u16.wrap (st0+1) else st0)=qP at *
   dsimp only at HXF;rw [Wz] at HXF;obtain ⟨g',o',c',b1,r1,s1,b2',r2,s2,b3,r3,s3,uK,hmq⟩:=mg.o q dG;cases uK;have HTQ:Hid (w.cell? ⟨g,o+q*15+3,none⟩=some (.int .u32 (Z5 L q).XW.time)):=Pn hmq 3 rfl;generalize (Z5 L q).XW=PQ at *
   clear HX HXR HEM hmq mg;have dF:(q:Int)<(L.length:Int):=OP.2 dG
   have FACTS:Hid (∀ w',SO w w' K ⟨out,q,bg,qP⟩ (.slice ua out.length uc) (.slice ua out.length uc)→w'.heap[T]?=some (.cells (Ju P.XP P.type P.seq P.time P.YE a1 n1 c1 P.XO P.Yl a2 n2 c2 a3 n3 c3 P.pad D) 97 (0,0))→w'.cell? ⟨K,0,none⟩=some (.slice ua out.length uc)∧w'.cell? ⟨K,1,none⟩=some (.int .i64 (q:Int))∧w'.cell? ⟨K,2,none⟩=some (.int .u32 bg)∧w'.cell? ⟨K,3,none⟩=some (.int .u16 qP)∧w'.cell? ⟨T,3,none⟩=some (.int .u32 P.time)∧w'.cell? ⟨V,0,none⟩=some (.pointer (some ⟨k,0,none⟩))∧w'.cell? ⟨V,1,none⟩=some (.int .i64 xp)∧w'.cell? ⟨V,2,none⟩=some (.int .i64 xs)∧w'.cell? ⟨k,2,none⟩=some (.slice (some ⟨g,o,none⟩) L.length c)∧w'.cell? ⟨g,o+q*15+3,none⟩=some (.int .u32 PQ.time)):=fun w' h1 h2=>
    ⟨h1.facts.1,h1.facts.2.1,h1.facts.2.2.1,h1.facts.2.2.2,Zc h2 3 rfl,by rw [cell_of ((h1.Zg.block _ (ZW HV.o)).trans HV.o) 0];rfl,by rw [cell_of ((h1.Zg.block _ (ZW HV.o)).trans HV.o) 1];rfl,by rw [cell_of ((h1.Zg.block _ (ZW HV.o)).trans HV.o) 2];rfl,by rw [cell_of ((h1.Zg.block _ (ZW DA.o)).trans DA.o) 2];rfl,Yp HTQ.o h1.Zg⟩
   have CO:=Zh (Ls xp xs w5.drew);go_upto_region 9 with fail
   refine SX ?_;refine Z_.Zy (d:=56) (S:=(fun w'=>w'.cell? ⟨K,0,none⟩=some (.slice ua out.length uc)∧w'.cell? ⟨K,1,none⟩=some (.int .i64 (q:Int))∧w'.cell? ⟨K,2,none⟩=some (.int .u32 bg)∧w'.cell? ⟨K,3,none⟩=some (.int .u16 qP)∧w'.cell? ⟨T,3,none⟩=some (.int .u32 P.time)∧w'.cell? ⟨V,0,none⟩=some (.pointer (some ⟨k,0,none⟩))∧w'.cell? ⟨V,1,none⟩=some (.int .i64 xp)∧w'.cell? ⟨V,2,none⟩=some (.int .i64 xs)∧w'.cell? ⟨k,2,none⟩=some (.slice (some ⟨g,o,none⟩) L.length c)∧w'.cell? ⟨g,o+q*15+3,none⟩=some (.int .u32 PQ.time))) ZB ?_ (fun _=>?_)
   ·(try dsimp only)
    exact FACTS.o _ y9.o HT5.o
   refine YP 0 (h:=YP 1 (h:=YP 2 (h:=YP 3 (h:=YP 5 (h:=YP 6 (h:=YP 7 (h:=YP 8 (h:=YP 9 (h:=YP 13 (h:=YP 14 (h:=YP 16 (h:=YP 17 (h:=YP 18 (h:=YP 23 (h:=YP 24 (h:=YP 25 (h:=YP 32 (h:=YP 33 (h:=YP 34 (h:=YP 37 (h:=YP 38 (h:=YP 39 (h:=YP 40 (h:=YP 42 (h:=YP 43 (h:=YP 44 (h:=YP 45 (h:=YP 48 (h:=YP 49 (h:=YP 50 (h:=YK 4 (h:=YK 10 (h:=YP 11 (h:=YP 12 (h:=YK 15 (h:=YK 19 (h:=YP 20 (h:=YP 21 (h:=YK 22 (h:=YK 26 (h:=YP 27 (h:=YP 28 (h:=YP 29 (h:=YK 30 (h:=YP 31 (h:=YK 35 (h:=YP 36 (h:=YK 41 (h:=YK 46 (h:=YK 51 (h:=YP 52 (h:=?_))))))))))))))))))))))))))))))))))))))))))))))))))));refine YR 47 (h:=fun K hK=>?_);go_simp;refine CO.o.mono ?_;rintro e w' ⟨rfl,rfl⟩;go_wp2_with fail
   refine Z_.Zb hK _ _ ?_ (fun _=>?_)
   ·(try dsimp only)
    exact FACTS.o _ y9.o HT5.o
   clear hK K;try simp only [Z_.pt]
   refine YP 53 (h:=YP 54 (h:=?_));refine YR 55 (h:=fun K hK=>?_);refine Xg Zr ux (.tmp 112) Zr (Qp (j:Int) (IntKind.u16.wrap (out.length:Int)) (IntKind.u32.wrap (IntKind.u32.wrap (P.time-PQ.time)+bg)) (Xj xp xs) (IntKind.u16.wrap (qP-1)) op) Zr Zr Zd ?_;have HR:Hid (Row (w5.drew.alloc (.cells (Qp (j:Int) (IntKind.u16.wrap (out.length:Int)) (IntKind.u32.wrap (IntKind.u32.wrap (P.time-PQ.time)+bg)) (Xj xp xs) (IntKind.u16.wrap (qP-1)) op) 70)) 70 (.slice (some ⟨w5.drew.heap.size,0,none⟩) 1 1) 1 (Qp (j:Int) (IntKind.u16.wrap (out.length:Int)) (IntKind.u32.wrap (IntKind.u32.wrap (P.time-PQ.time)+bg)) (Xj xp xs) (IntKind.u16.wrap (qP-1)) op)):=Vz w5.drew 70 1 (Qp (j:Int) (IntKind.u16.wrap (out.length:Int)) (IntKind.u32.wrap (IntKind.u32.wrap (P.time-PQ.time)+bg)) (Xj xp xs) (IntKind.u16.wrap (qP-1)) op) Zd;have U6:=Z' w5.drew (.cells (Qp (j:Int) (IntKind.u16.wrap (out.length:Int)) (IntKind.u32.wrap (IntKind.u32.wrap (P.time-PQ.time)+bg)) (Xj xp xs) (IntKind.u16.wrap (qP-1)) op) 70);have y9:=Zh (y9.o.below U6);have HT5:=Zh ((U6.block _ (ZW HT5.o)).trans HT5.o);clear U6;refine Z_.Zb hK _ _ ?_ (fun _=>?_)
   ·(try dsimp only)
    exact FACTS.o _ y9.o HT5.o
   clear hK K;try simp only [Z_.pt]
   refine YR 56 (h:=fun K hK=>?_);refine Zp Zr (.tmp 62) (.tmp 113) 61 Zr w.heap.size ux (.slice ua out.length uc) out.length (out.flatMap Vp) Zr y9.o.own _ 1 (Qp (j:Int) (IntKind.u16.wrap (out.length:Int)) (IntKind.u32.wrap (IntKind.u32.wrap (P.time-PQ.time)+bg)) (Xj xp xs) (IntKind.u16.wrap (qP-1)) op) Zr HR.o rfl (jF ⟨(j:Int),IntKind.u16.wrap (out.length:Int),IntKind.u32.wrap (IntKind.u32.wrap (P.time-PQ.time)+bg),Xj xp xs,IntKind.u16.wrap (qP-1),op⟩) Zo Zo y9.o.Zg.size ?_;intro v6 w6 IK yP;have kS:Hid (w6.ownsRow w 70 6 v6 (out++[(⟨j,IntKind.u16.wrap out.length,IntKind.u32.wrap (IntKind.u32.wrap (P.time-PQ.time)+bg),Xj xp xs,IntKind.u16.wrap (qP-1),op⟩:Hs)]).length ((out++[(⟨j,IntKind.u16.wrap out.length,IntKind.u32.wrap (IntKind.u32.wrap (P.time-PQ.time)+bg),Xj xp xs,IntKind.u16.wrap (qP-1),op⟩:Hs)]).flatMap Vp)):=(by rw [UE,OQ];exact IK.o);have bt:=Zh (y9.o.grow yP.o kS.o);obtain ⟨na,nc,NK⟩:∃ a c,v6 = .slice a (out.length+1) c:=by obtain ⟨a,c,h⟩:=Row.form (Row.Z6 kS.o);exact ⟨a,c,by rw [h,UE];rfl⟩
   subst NK;obtain ⟨u0,u1,u2,u3⟩:=bt.o.facts;have f0:=ZO bt.o.Y8 0;refine Z_.Yk hK _ _ ZB ?_;clear hK K;try simp only [Z_.pt]
   refine YP 57 (h:=YP 58 (h:=?_));refine YR 59 (h:=fun K hK=>?_);go_simp;have HSO7:=Zh (bt.o.set 0 (.slice na (out.length+1) nc) _ (.slice na (out.length+1) nc) rfl rfl);refine Z_.Yk hK _ _ ZB ?_;clear hK K;try simp only [Z_.pt]
   refine Z_.YC ZB ?_ _;refine RA ?_;go_wp2_with fail
   first|refine bodyPost_end (results_none Zr _ _ _) rfl ?_|refine VD (v:= .tuple #[]) (results_none Zr _ _ _) rfl ?_
   exact ⟨rfl,_,by rw [HXF.o];exact HSO7.o⟩
end
theorem rF (w:World):Calls Tryz.prog 56 #[.pointer none] w fun e w'=>e = .returned (.slice none 0 0)∧w=w':=by
 go_enter Tryz.func56,Tryz.ntmps56;go_wp2_with fail
 go_ret;exact ⟨rfl,rfl⟩
section
variable {w:World} {V k:Nat} {ov av mv lv:Value} {L:List V7} {x:Zu} {wv cv qv:Value}
theorem rE (h:VB w V k ov av mv lv L x wv cv qv) (hr:OL w wv cv qv (WQ L x (L.length+1))) (hL:L.length≤256) :
  Calls Tryz.prog 56 #[.pointer (some ⟨V,0,none⟩)] w fun e w'=>(∃ ev,e = .returned ev∧w'.ownsRow w 70 6 ev (UZ L x L.length).o.length ((UZ L x L.length).o.flatMap Vp))∧Below w w w':=by
 have Iu:=Zh h;have HVR:=Zh hr;obtain ⟨oa,oc,hov,-,-⟩:=h.ops.form;subst hov;have F3:Hid (SO w (w.alloc (.cells (Qw none 0 0 0 0 0) 162)) w.heap.size (UZ L x 0) (.slice none 0 0) (.slice none 0 0)):=⟨Z' w _,Z8 w _,TY _ _ _ _,Zw _⟩;have hVl:=ZW h.view;have VK:=ZW h.book;have v0:w.cell? ⟨V,0,none⟩=some (.pointer (some ⟨k,0,none⟩)):=Zc h.view 0 rfl;have b0:w.cell? ⟨k,0,none⟩=some (.slice oa L.length oc):=Zc h.book 0 rfl;clear h hr;go_enter Tryz.func56,Tryz.ntmps56;go_wp2_with fail
 clear v0 b0 hVl VK;generalize w.alloc (.cells (Qw none 0 0 0 0 0) 162)=w0 at *
 go_loopw [15] (fun s15 w'=>∃ (j:Nat) (uv:Value),j≤L.length∧s15 = .int .i64 (j:Int)∧SO w w' w.heap.size (UZ L x j) uv uv) (fun s15 _=>L.length-(intOf s15).toNat)
 case atStart=>exact ⟨0,_,Zo,rfl,F3.o⟩
 case round=>
  obtain ⟨j,uv,hj,rfl,qN⟩:=hrel;clear F3;have mC:=Zh qN;clear qN;by_cases RV:j<L.length
  ·have zW:(j:Int)<(L.length:Int):=OP.2 RV;have PJ:=Zh (Pp L x j);have BF:Hid (UZ L x (j+1)=Tg L x (Yi L x j) (UZ L x j) j):=rfl;have Ir:=Zh (HVR.o.at (Ra L x (Nat.lt_succ_of_lt RV)));generalize UZ L x j=z at *
   generalize Yi L x j=s at *
   have au:z.o.length≤1000:=by have:=PJ.o.len;omega
   have DD:Hid (∀ e∈z.o,0≤e.event∧e.event<L.length):=fun e he=>by have:=PJ.o.ev e he;omega
   obtain ⟨ua,uc,rfl⟩:=Row.form (Row.Z6 mC.o.own);obtain ⟨gq,oq,mq,cq,hqv,cZ,hqc⟩:=Ir.o.quiet;have bj:=Zh hqc;have hjqI:(j:Int)<(mq:Int):=OP.2 cZ;subst hqv;have CP:=Zh (IX (Iu.o.below mC.o.Zg) RV);have zg:Hid (Tg L x s z j=if Wa L x j && !s.quiet && (VY s (Z5 L j).WJ || I5 L s z.o j) then Lt L x s z j else z):=rfl;generalize hS:Tg L x s z j=ZZ at *
   have qA:=Zh hS;clear hS hqc;generalize GD:VY s (Z5 L j).WJ=op at *
   have aZ:=Zh GD;generalize uK:I5 L s z.o j=go at *
   have eW:=Zh uK;generalize Wa L x j=pk at *
   generalize s.quiet=qt at *
   clear GD uK;cases pk with
   | false=>
    have HX:Hid (ZZ=z):=by show _=_;rw [zg.o];rfl
    go_wp2_with (go_at_call 88;refine CP.o.mono ?_;rintro e w2 ⟨rfl,Y7⟩;have QC:=Zh (mC.o.below Y7);have q7:w2.cell? ⟨V,7,none⟩=some (.slice (some ⟨gq,oq,none⟩) mq cq):=(by rw [cell_of (Iu.o.below QC.o.Zg).view 7];rfl);have qc:w2.cell? ⟨gq,oq+j,none⟩=some (.bool qt):=Yp bj.o QC.o.Zg;have CN:=Zh (Tz (Iu.o.below QC.o.Zg) RV (Ir.o.below QC.o.Zg));rw [aZ.o] at CN;clear Y7)
    go_roundw
    case rel=>exact ⟨j+1,_,Zo,Zn,by rw [BF.o,HX.o];exact QC.o⟩
    case measure=>simp [intOf];omega
   | true=>
   cases qt with
   | true=>
    have HX:Hid (ZZ=z):=by show _=_;rw [zg.o];rfl
    go_wp2_with (go_at_call 88;refine CP.o.mono ?_;rintro e w2 ⟨rfl,Y7⟩;have QC:=Zh (mC.o.below Y7);have q7:w2.cell? ⟨V,7,none⟩=some (.slice (some ⟨gq,oq,none⟩) mq cq):=(by rw [cell_of (Iu.o.below QC.o.Zg).view 7];rfl);have qc:w2.cell? ⟨gq,oq+j,none⟩=some (.bool true):=Yp bj.o QC.o.Zg;have CN:=Zh (Tz (Iu.o.below QC.o.Zg) RV (Ir.o.below QC.o.Zg));rw [aZ.o] at CN;clear Y7)
    go_roundw
    case rel=>exact ⟨j+1,_,Zo,Zn,by rw [BF.o,HX.o];exact QC.o⟩
    case measure=>simp [intOf];omega
   | false=>
   cases op with
   | true=>
    have HX:Hid (ZZ=Lt L x s z j):=by show _=_;rw [zg.o];rfl
    go_wp2_with (first|(go_at_call 88;refine CP.o.mono ?_;rintro e w2 ⟨rfl,Y7⟩;have QC:=Zh (mC.o.below Y7);have q7:w2.cell? ⟨V,7,none⟩=some (.slice (some ⟨gq,oq,none⟩) mq cq):=(by rw [cell_of (Iu.o.below QC.o.Zg).view 7];rfl);have qc:w2.cell? ⟨gq,oq+j,none⟩=some (.bool false):=Yp bj.o QC.o.Zg;have CN:=Zh (Tz (Iu.o.below QC.o.Zg) RV (Ir.o.below QC.o.Zg));rw [aZ.o] at CN;clear Y7)|(go_at_call 89;refine CN.o.mono ?_;rintro e w3 ⟨rfl,VJ⟩;have F4:=Zh (QC.o.below VJ);obtain ⟨e0,e1,e2,e3⟩:=F4.o.facts;have CG:=Zh (J0 (Iu.o.below F4.o.Zg) RV (Ir.o.below F4.o.Zg) ua uc z.o z.opn z.begin z.Uv (Row.Z6 F4.o.own) DD.o au);rw [eW.o] at CG;have CSE:=Zh (OO Iu.o RV hL Ir.o w.heap.size z _ w3 F4.o PJ.o);clear VJ)|(go_at_call 91;refine CSE.o.mono ?_;rintro e w5 ⟨rfl,lJ,oQ⟩;have HS5:=Zh oQ;clear oQ))
    go_roundw
    case rel=>exact ⟨j+1,_,Zo,Zn,by rw [BF.o,HX.o];exact HS5.o⟩
    case measure=>simp [intOf];omega
   | false=>
   cases go with
   | true=>
    have HX:Hid (ZZ=Lt L x s z j):=by show _=_;rw [zg.o];rfl
    go_wp2_with (first|(go_at_call 88;refine CP.o.mono ?_;rintro e w2 ⟨rfl,Y7⟩;have QC:=Zh (mC.o.below Y7);have q7:w2.cell? ⟨V,7,none⟩=some (.slice (some ⟨gq,oq,none⟩) mq cq):=(by rw [cell_of (Iu.o.below QC.o.Zg).view 7];rfl);have qc:w2.cell? ⟨gq,oq+j,none⟩=some (.bool false):=Yp bj.o QC.o.Zg;have CN:=Zh (Tz (Iu.o.below QC.o.Zg) RV (Ir.o.below QC.o.Zg));rw [aZ.o] at CN;clear Y7)|(go_at_call 89;refine CN.o.mono ?_;rintro e w3 ⟨rfl,VJ⟩;have F4:=Zh (QC.o.below VJ);obtain ⟨e0,e1,e2,e3⟩:=F4.o.facts;have CG:=Zh (J0 (Iu.o.below F4.o.Zg) RV (Ir.o.below F4.o.Zg) ua uc z.o z.opn z.begin z.Uv (Row.Z6 F4.o.own) DD.o au);rw [eW.o] at CG;have CSE:=Zh (OO Iu.o RV hL Ir.o w.heap.size z _ w3 F4.o PJ.o);clear VJ)|(go_at_call 90;refine CG.o.mono ?_;rintro e w4 ⟨rfl,Oj⟩;have HS4:=Zh (F4.o.below Oj);clear CSE;have CSE:=Zh (OO Iu.o RV hL Ir.o w.heap.size z _ w4 HS4.o PJ.o);clear Oj)|(go_at_call 91;refine CSE.o.mono ?_;rintro e w5 ⟨rfl,lJ,oQ⟩;have HS5:=Zh oQ;clear oQ))
    go_roundw
    case rel=>exact ⟨j+1,_,Zo,Zn,by rw [BF.o,HX.o];exact HS5.o⟩
    case measure=>simp [intOf];omega
   | false=>
    have HX:Hid (ZZ=z):=by show _=_;rw [zg.o];rfl
    go_wp2_with (first|(go_at_call 88;refine CP.o.mono ?_;rintro e w2 ⟨rfl,Y7⟩;have QC:=Zh (mC.o.below Y7);have q7:w2.cell? ⟨V,7,none⟩=some (.slice (some ⟨gq,oq,none⟩) mq cq):=(by rw [cell_of (Iu.o.below QC.o.Zg).view 7];rfl);have qc:w2.cell? ⟨gq,oq+j,none⟩=some (.bool false):=Yp bj.o QC.o.Zg;have CN:=Zh (Tz (Iu.o.below QC.o.Zg) RV (Ir.o.below QC.o.Zg));rw [aZ.o] at CN;clear Y7)|(go_at_call 89;refine CN.o.mono ?_;rintro e w3 ⟨rfl,VJ⟩;have F4:=Zh (QC.o.below VJ);obtain ⟨e0,e1,e2,e3⟩:=F4.o.facts;have CG:=Zh (J0 (Iu.o.below F4.o.Zg) RV (Ir.o.below F4.o.Zg) ua uc z.o z.opn z.begin z.Uv (Row.Z6 F4.o.own) DD.o au);rw [eW.o] at CG;have CSE:=Zh (OO Iu.o RV hL Ir.o w.heap.size z _ w3 F4.o PJ.o);clear VJ)|(go_at_call 90;refine CG.o.mono ?_;rintro e w4 ⟨rfl,Oj⟩;have HS4:=Zh (F4.o.below Oj);clear CSE;have CSE:=Zh (OO Iu.o RV hL Ir.o w.heap.size z _ w4 HS4.o PJ.o);clear Oj))
    go_roundw
    case rel=>exact ⟨j+1,_,Zo,Zn,by rw [BF.o,HX.o];exact HS4.o⟩
    case measure=>simp [intOf];omega
  ·have Mc:j=L.length:=by omega
   subst Mc;obtain ⟨ua,uc,rfl⟩:=Row.form (Row.Z6 mC.o.own);obtain ⟨u0,u1,u2,u3⟩:=mC.o.facts;clear RV;go_wp2_with fail
   go_ret;exact ⟨⟨_,rfl,mC.o.own⟩,mC.o.Zg⟩
end
end Go.Proofs.By
namespace Go.Proofs.By
open Go.RowKit Go.Proofs.Heap Go.Proofs
open Go.Proofs.NM (Xz)
open Go.Proofs.Mem
theorem zi (v:Value) (L:List V7) (w:World) (hT:Xz w) (h:Xf w v L) (hL:L.length≤256) :
  Calls Tryz.prog 24 #[v] w fun e w'=>(∃ av,e = .returned av∧Row w' 35 av L.length ((Xt L L.length).flatMap Vn))∧Below w w w':=by
 exact Yx71
theorem sZ {w:World} {b b':Nat} {e:TypeId} {size:Nat} {v:Value} {n:Nat} {xs:List Value} (h:w.ownsRow b e size v n xs) (hb:b'≤b):w.ownsRow b' e size v n xs:=by
 obtain ⟨h1,h2⟩:=h;refine ⟨h1,?_⟩;rcases h2 with h2|⟨g,cap,cur,hv,hg,r⟩
 ·exact Ws h2
 ·exact Wh ⟨g,cap,cur,hv,PO hb hg,r⟩
def Vj (L:List V7) (x:Zu):List Hs:=if x∈Yv L L.length L.length then (UZ L x L.length).o else []
theorem vI (v:Value) (L:List V7) (x:Zu) (w:World) (hT:Xz w) (h:Xf w v L) (hL:L.length≤256) :
  Calls Tryz.prog 29 #[v,.agg (ZX x).toArray] w fun e w'=>(∃ ev,e = .returned ev∧w'.ownsRow w 70 6 ev (Vj L x).length ((Vj L x).flatMap Vp))∧Below w w w':=by
 have Tx:Hid (Below w w (w.alloc (.cells (ZX x).toArray 59))):=Z' w _;have hz:(w.alloc (.cells (ZX x).toArray 59)).heap[w.heap.size]?=some (.cells (ZX x).toArray 59 (0,0)):=Z8 w _;by_cases hx:x∈Yv L L.length L.length
 ·have CV:=Zh (N_ v L x (w.alloc (.cells (ZX x).toArray 59)) (Utf8Tabs_below hT Tx.o) (h.below Tx.o) hL hx);have HX:Hid (Vj L x=(UZ L x L.length).o):=by show _=_;unfold Vj;rw [ZR hx]
  have HL:=Zh hL;generalize Vj L x=X at *
  clear hx hT h hL;obtain ⟨p,sr,b,f⟩:=x;dsimp only [ZX] at CV Tx hz ⊢;go_enter Tryz.func29,Tryz.ntmps29;go_wp2_with (first|(with_reducible refine Zj 59 (.tmp 3) rfl ?_;refine Zf rfl 59 (.tmp 3) rfl w.heap.size rfl 59 (Qc p sr b f) (0,0) _ hz Tryz.underlying59 rfl ZB ?_)|(go_at_call 55;refine CV.o.mono ?_;rintro e w2 ⟨⟨V,k,ov,av,mv,lv,wv,cv,qv,rfl,uM,uN⟩,Y7⟩;have X8:=Zh (Tx.o.trans (Y7.mono Tx.o.size));have CW:=Zh (rE uM uN HL.o);clear uM uN Y7)|(go_at_call 56;refine CW.o.mono ?_;rintro e w3 ⟨⟨ev,rfl,Ma⟩,VJ⟩;have DD:=Zh Ma;have Wc:=Zh (X8.o.trans (VJ.mono X8.o.size));clear Ma VJ))
  go_ret;exact ⟨⟨ev,rfl,by rw [HX.o];exact sZ DD.o X8.o.size⟩,Wc.o⟩
 ·have CV:=Zh (N9 v L x (w.alloc (.cells (ZX x).toArray 59)) (Utf8Tabs_below hT Tx.o) (h.below Tx.o) hL hx);have HX:Hid (Vj L x=[]):=by show _=_;unfold Vj;rw [Z4 hx]
  generalize Vj L x=X at *
  clear hx hT h hL;obtain ⟨p,sr,b,f⟩:=x;dsimp only [ZX] at CV Tx hz ⊢;go_enter Tryz.func29,Tryz.ntmps29;go_wp2_with (first|(with_reducible refine Zj 59 (.tmp 3) rfl ?_;refine Zf rfl 59 (.tmp 3) rfl w.heap.size rfl 59 (Qc p sr b f) (0,0) _ hz Tryz.underlying59 rfl ZB ?_)|(go_at_call 55;refine CV.o.mono ?_;rintro e w2 ⟨rfl,Y7⟩;have X8:=Zh (Tx.o.trans (Y7.mono Tx.o.size));have CW:=Zh (rF w2);clear Y7)|(go_at_call 56;refine CW.o.mono ?_;rintro e w' ⟨rfl,rfl⟩))
  go_ret;exact ⟨⟨_,rfl,by rw [HX.o];exact TY _ _ _ _⟩,X8.o⟩
theorem DK (v:Value) (L:List V7) (x:Zu) (w:World) (hT:Xz w) (h:Xf w v L) (hL:L.length≤256) :
  Calls Tryz.prog 29 #[v,.agg (ZX x).toArray] w fun e w'=>(∃ ev,e = .returned ev∧Row w' 70 ev (Vj L x).length ((Vj L x).flatMap Vp))∧Below w w w':=
 (vI v L x w hT h hL).mono fun e w' ⟨⟨ev,h1,h2⟩,h3⟩=>⟨⟨ev,h1,Row.Z6 h2⟩,h3⟩
open Go.Proofs.Rm (Wm)
theorem zI {L:List V7} {k:Nat} (h:(Z5 L k).XC.kind=1):(QE L k).ds=(Z5 L k).WJ∧(QE L k).pk=(Z5 L k).XW:=by
 unfold Z5 at h ⊢;unfold QE;cases hy:L[k]? with
 | none=>rw [hy] at h;exact absurd h (by show ¬(0:Int)=1;decide)
 | some y=>
  rw [hy] at h;dsimp only at h ⊢;unfold take at h ⊢;by_cases k1:y.x.o.kind=1
  ·rw [ZR k1] at h ⊢;unfold wh;rw [ZR k1];unfold YG at h ⊢;by_cases h1:(XN y.b).2≠0
   ·rw [ZR h1] at h;exact absurd h (by show ¬(3:Int)=1;decide)
   rw [Z4 h1] at h ⊢;split at h
   ·exact absurd h (by show ¬(4:Int)=1;decide)
   rename_i h2
   rw [Z4 h2];cases hv:(XN y.b).1 with
   | none=>rw [hv] at h;exact absurd h (by show ¬(2:Int)=1;decide)
   | XX l=>rw [hv] at h;exact absurd h (by show ¬(2:Int)=1;decide)
   | X5 p d=>
    rw [hv] at h;dsimp only at h ⊢;unfold Vg at h ⊢;split at h
    ·rename_i h3;rw [ZR h3];exact ⟨rfl,rfl⟩
    ·exact absurd h (by show ¬(5:Int)=1;decide)
  ·rw [Z4 k1] at h;split at h
   ·exact absurd h (by show ¬(6:Int)=1;decide)
   ·exact absurd h (by show ¬(2:Int)=1;decide)
structure zm (L:List V7) (x:Zu) (k:Nat) (l:List Hs) (i:Nat) (s:Hs):Prop where
 ev:0≤s.event∧s.event<k
 pk:Wa L x s.event.toNat=true
 seq:s.seq=IntKind.u16.wrap i
 YE:s.YE=Xj x.peer x.source
 quiet:(Yi L x s.event.toNat).quiet=false
 opn:s.sw=true→VY (Yi L x s.event.toNat) (Z5 L s.event.toNat).WJ=true
 goes:s.sw=false→0<i∧(Z5 L s.event.toNat).WJ.ZH=(Yi L x s.event.toNat).cur∧0<QO (Z5 L s.event.toNat).XW.seq (Z5 L (l.getD (i-1) Sk).event.toNat).XW.seq
 last:0<i→(l.getD (i-1) Sk).event<s.event
theorem zm.snoc {L:List V7} {x:Zu} {k:Nat} {l:List Hs} {i:Nat} {s e:Hs} (h:zm L x k l i s) (hi:i<l.length):zm L x (k+1) (l++[e]) i s:=by
 have hg:(l++[e]).getD (i-1) Sk=l.getD (i-1) Sk:=by
  rw [SC,SC,Z1e Zo]
 exact ⟨⟨h.ev.1,by have:=h.ev.2;omega⟩,h.pk,h.seq,h.YE,h.quiet,h.opn,by rw [hg];exact h.goes,by rw [hg];exact h.last⟩
theorem Hb (L:List V7) (x:Zu):∀ (k i:Nat) (s:Hs),(UZ L x k).o[i]?=some s→zm L x k (UZ L x k).o i s
 | 0,i,s,h=>by simp [UZ] at h
 | k+1,i,s,h=>by
  have ih:=Hb L x k;have Wq:=Pp L x k;show zm L x (k+1) (Tg L x (Yi L x k) (UZ L x k) k).o i s;have h':(Tg L x (Yi L x k) (UZ L x k) k).o[i]?=some s:=h;generalize UZ L x k=z at *
  unfold Tg at h' ⊢;by_cases hc:(Wa L x k && !(Yi L x k).quiet && (VY (Yi L x k) (Z5 L k).WJ || I5 L (Yi L x k) z.o k))=true
  ·rw [ZR hc] at h' ⊢;have ho:(Lt L x (Yi L x k) z k).o=z.o++[rZ L x (SM z k (VY (Yi L x k) (Z5 L k).WJ) (Z5 L k).WJ.start) k (VY (Yi L x k) (Z5 L k).WJ)]:=rfl;rw [ho] at h' ⊢;rcases Nat.lt_or_ge i z.o.length with hi|hi
   ·rw [Z1e hi] at h';exact (ih i s h').snoc hi
   ·rw [Z1c hi] at h'
    have hi0:i=z.o.length:=by
     rcases Nat.eq_zero_or_pos (i-z.o.length) with h0|h0
     ·omega
     ·rw [List.getElem?_eq_none (by simp;omega)] at h';cases h'
    subst hi0;rw [Nat.sub_self] at h';have hs:s=rZ L x (SM z k (VY (Yi L x k) (Z5 L k).WJ) (Z5 L k).WJ.start) k (VY (Yi L x k) (Z5 L k).WJ):=by simpa using h'.symm
    rw [UR,UR] at hc
    have hl:0<z.o.length→(z.o++[s]).getD (z.o.length-1) Sk=RI z.o:=fun h0=>by
     unfold RI;rw [SC,SC,Z1e Zo]
    have Ef:0<z.o.length→RI z.o∈z.o:=fun h0=>by
     unfold RI;rw [SC,Vb Zo];exact PA _
    have e1:s.event=(k:Int):=by rw [hs];rfl
    have e2:s.event.toNat=k:=by rw [e1];exact Wz k
    rw [←hs];refine ⟨⟨Zo,Zo⟩,by rw [e2];exact hc.1.1,by rw [hs];rfl,by rw [hs];rfl,by rw [e2];simpa using hc.1.2,fun h=>?_,fun h=>?_,fun h0=>?_⟩
    ·rw [e2];rw [hs] at h;exact h
    ·have GD:VY (Yi L x k) (Z5 L k).WJ=false:=by rw [hs] at h;exact h
     have hg:=hc.2;rw [GD,Bool.false_or] at hg;unfold I5 at hg;rw [UR,UR] at hg;have h0:0<z.o.length:=by have:=hg.1.2;simp at this;exact List.length_pos_iff.2 this
     rw [e2,hl h0];exact ⟨h0,of_decide_eq_true hg.1.1,of_decide_eq_true hg.2⟩
    ·rw [hl h0,e1];exact (Wq.ev _ (Ef h0)).2
  ·rw [Z4 hc] at h' ⊢;have h1:=ih i s h';exact ⟨⟨h1.ev.1,by have:=h1.ev.2;omega⟩,h1.pk,h1.seq,h1.YE,h1.quiet,h1.opn,h1.goes,h1.last⟩
end Go.Proofs.By
namespace Go.Proofs.By
def WU (b:List UInt8):Nat:=if at8 b 0 / 16 % 2=1 then 12+4*(at8 b 0 % 16)+4+4*get b (((12+4*(at8 b 0 % 16):Nat):Int)+2) 2 else 12+4*(at8 b 0 % 16)
def Ua (b:List UInt8):Nat:=if at8 b 0 / 16 % 2=1 then 12+4*(at8 b 0 % 16)+4 else 12+4*(at8 b 0 % 16)
def Td (b:List UInt8):Nat:=if at8 b 0 / 32 % 2=1 then at8 b (b.length-1) else 0
def Df (b:List UInt8):KI × Int:=
  if 512<b.length then (WT,5)
  else if b.length<12 then (WT,2)
  else if at8 b 0<128∨191<at8 b 0 then (WT,1)
  else if 192≤at8 b 1∧at8 b 1≤223 then (WT,4)
  else if b.length<12+4*(at8 b 0 % 16) then (WT,2)
  else if at8 b 0 / 16 % 2=1∧b.length<12+4*(at8 b 0 % 16)+4 then (WT,2)
  else if b.length<WU b then (WT,2)
  else if at8 b 0 / 32 % 2=1∧(WU b=b.length∨at8 b (b.length-1)=0∨b.length-WU b<at8 b (b.length-1)) then (WT,1)
  else if at8 b 0 / 32 % 2=1∧¬(((b.drop (b.length-at8 b (b.length-1))).take (at8 b (b.length-1)-1)).all (fun x=>decide (x=0))=true) then (WT,1)
  else (TH b (Ua b,WU b,b.length-Td b),0)
theorem nD (b:List UInt8) (k i:Nat):at8 (b.drop k) i=at8 b (k+i):=by
  unfold at8;rw [SC,SC,List.getElem?_drop]
theorem xK (b:List UInt8):YM b=Df b:=by
  unfold YM Df
  have e0:looks b=if 512<b.length then ((0,0,0),5)
    else if b.length<12 then ((0,0,0),2)
    else if at8 b 0 / 64≠2 then ((0,0,0),1)
    else if 192≤at8 b 1∧at8 b 1≤223 then ((0,0,0),4)
    else if (Vq b (12+4*(at8 b 0 % 16))).2=false then ((0,0,0),2)
    else if (R3 b (b.drop (Vq b (12+4*(at8 b 0 % 16))).1.2)).2=false then ((0,0,0),1) else (((Vq b (12+4*(at8 b 0 % 16))).1.1,(Vq b (12+4*(at8 b 0 % 16))).1.2,b.length-(R3 b (b.drop (Vq b (12+4*(at8 b 0 % 16))).1.2)).1),0):=rfl
  rw [e0];by_cases h1:512<b.length
  · simp only [ZR h1];rfl
  simp only [Z4 h1];by_cases h2:b.length<12
  · simp only [ZR h2];rfl
  simp only [Z4 h2];have hb:=(show at8 b 0<256 by unfold at8;exact (b.getD 0 0).toNat_lt);by_cases h3:at8 b 0<128∨191<at8 b 0
  · simp only [ZR h3,ZR (show at8 b 0 / 64≠2 by omega)];rfl
  simp only [Z4 h3,Z4 (show ¬at8 b 0 / 64≠2 by omega)];by_cases h4:192≤at8 b 1∧at8 b 1≤223
  · simp only [ZR h4];rfl
  simp only [Z4 h4];obtain ⟨p,hp⟩:∃ p,p=12+4*(at8 b 0 % 16):=⟨_,rfl⟩
  have hx:(Vq b p).1=(Ua b,WU b)∧((Vq b p).2=decide (¬(b.length<p)∧¬(at8 b 0 / 16 % 2=1∧b.length<p+4)∧¬b.length<WU b)):=by
    unfold Vq Ua WU;rw [←hp];by_cases h5:at8 b 0 / 16 % 2=1
    · rw [Z4 (show ¬at8 b 0 / 16 % 2=0 by omega)];simp only [ZR h5];refine ⟨by first|rfl|simp,?_⟩;rw [Bool.eq_iff_iff,UR,within_iff,Pz,Pz];omega
    · rw [ZR (show at8 b 0 / 16 % 2=0 by omega)];simp only [Z4 h5];refine ⟨by first|rfl|simp,?_⟩;rw [Bool.eq_iff_iff,Pz,Pz];omega
  rw [←hp,hx.1,hx.2];have hpe:p≤WU b:=by unfold WU;rw [←hp];split <;> omega
  by_cases h5:¬(b.length<p)∧¬(at8 b 0 / 16 % 2=1∧b.length<p+4)∧¬b.length<WU b
  · rw [Wi h5];simp only [Bool.true_eq_false,if_false,Z4 h5.1,Z4 h5.2.1,Z4 h5.2.2];have hq:(b.drop (WU b)).length=b.length-WU b:=Rg;by_cases h6:at8 b 0 / 32 % 2=1
    · simp only [h6,true_and];unfold R3 Td;rw [Z4 (show ¬at8 b 0 / 32 % 2=0 by omega),hq,ZR h6];by_cases h7:b.length-WU b=0
      · simp only [ZR h7,ZR (show WU b=b.length∨at8 b (b.length-1)=0∨b.length-WU b<at8 b (b.length-1) from Ws Zo)];rfl
      simp only [Z4 h7,nD,List.drop_drop];rw [show WU b+(b.length-WU b-1)=b.length-1 by omega];by_cases h8:at8 b (b.length-1)=0∨b.length-WU b<at8 b (b.length-1)
      · simp only [ZR h8,ZR (show WU b=b.length∨at8 b (b.length-1)=0∨b.length-WU b<at8 b (b.length-1) from Wh h8)];rfl
      rw [Z4 h8,Z4 (show ¬(WU b=b.length∨at8 b (b.length-1)=0∨b.length-WU b<at8 b (b.length-1)) by omega),show WU b+(b.length-WU b-at8 b (b.length-1))=b.length-at8 b (b.length-1) by omega];by_cases h9:((b.drop (b.length-at8 b (b.length-1))).take (at8 b (b.length-1)-1)).all (fun x=>decide (x=0))=true
      · simp [h9]
      · simp [h9]
    · have h6':at8 b 0 / 32 % 2=0:=by omega
      unfold R3 Td;simp [h6',h6]
  · rw [WI h5];simp only [if_true];by_cases a1:b.length<p
    · rw [ZR a1];rfl
    rw [Z4 a1];by_cases a2:at8 b 0 / 16 % 2=1∧b.length<p+4
    · rw [ZR a2];rfl
    rw [Z4 a2];by_cases a3:b.length<WU b
    · rw [ZR a3];rfl
    · exact absurd ⟨a1,a2,a3⟩ h5
open Go.RowKit Go.Proofs.Heap
open Go.Proofs.Rm (VE)
theorem Rj (v:Value) (b:List UInt8) (p q:Int) (w:World) (hv:X6 w v b):Calls Tryz.prog 118 #[v,.int .i64 p,.int .i64 q] w fun e w'=>e = .returned (.int .u64 (get b p q:Nat))∧w=w':=by
 have C:=Zh (pM v b p q w hv);clear hv;go_enter Tryz.func118,Tryz.ntmps118;go_wp2_with (go_at_call 145;refine C.o.mono ?_;rintro e w' ⟨rfl,rfl⟩)
 go_ret;exact ⟨rfl,rfl⟩
theorem pO (p s:Int) (w:World):Calls Tryz.prog 61 (Qz p s) w fun e w'=>e = .returned (.int .u32 (Xj p s))∧w=w':=by
 have HF:Hid (Xj p s=if VE p 9 && VE s 9 then 3221225472+(256*p+s) else 0):=rfl;generalize Xj p s=x at *
 by_cases h1:p<1
 ·have HX:Hid (x=0):=by show _=_;rw [HF.o,Z4 (by intro h;have:=Xn.1 ((UR _ _).mp h).1;omega)]
  have d1:decide (p<1)=true:=Wi h1;exact ju
 have d1:decide (p<1)=false:=WI h1;by_cases h2:8<p
 ·have HX:Hid (x=0):=by show _=_;rw [HF.o,Z4 (by intro h;have:=Xn.1 ((UR _ _).mp h).1;omega)]
  have d2:decide (8<p)=true:=Wi h2;exact ju
 have d2:decide (8<p)=false:=WI h2;by_cases h3:s<1
 ·have HX:Hid (x=0):=by show _=_;rw [HF.o,Z4 (by intro h;have:=Xn.1 ((UR _ _).mp h).2;omega)]
  have d3:decide (s<1)=true:=Wi h3;exact ju
 have d3:decide (s<1)=false:=WI h3;by_cases h4:8<s
 ·have HX:Hid (x=0):=by show _=_;rw [HF.o,Z4 (by intro h;have:=Xn.1 ((UR _ _).mp h).2;omega)]
  have d4:decide (8<s)=true:=Wi h4;exact ju
 have d4:decide (8<s)=false:=WI h4;have HX:Hid (x=3221225472+(256*p+s)):=by show _=_;rw [HF.o,ZR (by rw [Xn.2 ⟨Zo,Zo⟩,Xn.2 ⟨Zo,Zo⟩];rfl)]
 have w1:IntKind.u32.wrap p=p:=by rw [NI];omega
 have w2:IntKind.u32.wrap s=s:=by rw [NI];omega
 have w3:IntKind.u32.wrap (p*256)=p*256:=by rw [NI];omega
 have w4:IntKind.u32.wrap (3221225472+p*256)=3221225472+p*256:=by rw [NI];omega
 have w5:IntKind.u32.wrap (3221225472+p*256+s)=3221225472+p*256+s:=by rw [NI];omega
 clear HF;go_enter Tryz.func61,Tryz.ntmps61;go_wp2;go_ret;exact ⟨Ll (by rw [HX.o];omega),rfl⟩
theorem yf {x:Int} (h0:0≤x) (h1:x<4294967296) (h:∀ p s:Int,1≤p→p<9→1≤s→s<9→Xj p s≠x):U9 x=(0,0,false):=by
 have h2:U9 x=(if VE ((x+1073741824) % 4294967296 / 256) 9 && VE ((x+1073741824) % 4294967296 % 256) 9 then ((x+1073741824) % 4294967296 / 256,(x+1073741824) % 4294967296 % 256,true) else (0,0,false)):=rfl;by_cases hc:(VE ((x+1073741824) % 4294967296 / 256) 9 && VE ((x+1073741824) % 4294967296 % 256) 9)=true
 ·rw [ZR hc] at h2;have h3:=(EU h0 h1).2 h2;have h4:=Xn.1 h3.1;have h5:=Xn.1 h3.2.1;exact absurd h3.2.2 (h _ _ h4.1 h4.2 h5.1 h5.2)
 ·rw [Z4 hc] at h2;exact h2
theorem xk (x:Int) (w:World) (h0:0≤x) (h1:x<4294967296) :
  Calls Tryz.prog 103 #[.int .u32 x] w fun e w'=>e = .returned (.tuple (Q5 (U9 x).1 (U9 x).2.1 (U9 x).2.2))∧w=w':=by
 have CO:=Zh (fun (p s:Int)=>pO p s w);have HY:Hid (∀ p s:Int,1≤p→p<9→1≤s→s<9→Xj p s=x→U9 x=(p,s,true)):=fun p s a1 a2 a3 a4 h=>(EU h0 h1).1 ⟨Xn.2 ⟨a1,a2⟩,Xn.2 ⟨a3,a4⟩,h⟩
 have HN:Hid ((∀ p s:Int,1≤p→p<9→1≤s→s<9→Xj p s≠x)→U9 x=(0,0,false)):=fun h=>yf h0 h1 h
 generalize U9 x=X at *
 clear h0 h1;go_enter Tryz.func103,Tryz.ntmps103;go_wp2_with fail
 go_loopw [5] (fun s5 w'=>∃ p:Nat,1≤p∧p≤9∧s5 = .int .i64 (p:Int)∧w'=w∧Hid (∀ p' s':Int,1≤p'→p'<p→1≤s'→s'<9→Xj p' s'≠x)) (fun s5 _=>9-(intOf s5).toNat)
 case atStart=>exact ⟨1,Zo,Zo,rfl,rfl,fun p' s' a b=>by omega⟩
 case round=>
  obtain ⟨p,Ei,LJ,rfl,rfl,HP⟩:=hrel;by_cases hp:p<9
  ·have dp:decide ((p:Int)≤8)=true:=Wi Zo;go_wp2_with fail
   go_loopw [6] (fun s6 w'=>∃ s:Nat,1≤s∧s≤9∧s6 = .int .i64 (s:Int)∧w'=wr∧Hid (∀ s':Int,1≤s'→s'<s→Xj (p:Int) s'≠x)) (fun s6 _=>9-(intOf s6).toNat)
   case atStart=>exact ⟨1,Zo,Zo,rfl,rfl,fun s' a b=>by omega⟩
   case round=>
    obtain ⟨s,hJ,ah,rfl,rfl,HS⟩:=hrel;by_cases hs:s<9
    ·have ds:decide ((s:Int)≤8)=true:=Wi Zo;have C1:=Zh (CO.o p s);by_cases hx:Xj (p:Int) (s:Int)=x
     ·have HX:Hid (X=((p:Int),(s:Int),true)):=HY.o p s Zo Zo Zo Zo hx;rw [hx] at C1;clear HY HN HP HS hx CO;go_wp2_with (go_at_call 61;refine C1.o.mono ?_;rintro e w' ⟨rfl,rfl⟩)
      go_ret3
      exact ⟨by rw [HX.o];rfl,rfl⟩
     ·have e1:(Xj (p:Int) (s:Int) == x)=false:=by rw [WR];exact hx
      have QC:Hid (∀ s':Int,1≤s'→s'<((s+1:Nat):Int)→Xj (p:Int) s'≠x):=fun s' a b=>by
       by_cases h:s'=(s:Int)
       ·rw [h];exact hx
       ·exact HS.o s' a Zo
      clear hx;generalize Xj (p:Int) (s:Int)=z at *
      go_wp2_with (go_at_call 61;refine C1.o.mono ?_;rintro e w' ⟨rfl,rfl⟩)
      go_roundw
      case rel=>exact ⟨s+1,Zo,Zo,Zn,by first|rfl|trivial,QC.o⟩
      case measure=>simp [intOf];omega
    ·have hH:s=9:=by omega
     subst hH
     have mn:Hid (∀ p' s':Int,1≤p'→p'<((p+1:Nat):Int)→1≤s'→s'<9→Xj p' s'≠x):=fun p' s' a b c d=>by
      by_cases h:p'=(p:Int)
      ·rw [h];exact HS.o s' c d
      ·exact HP.o p' s' a Zo c d
     clear hs;go_wp2;go_roundw
     case rel=>exact ⟨p+1,Zo,Zo,Zn,by first|rfl|trivial,mn.o⟩
     case measure=>simp [intOf];omega
  ·have sF:p=9:=by omega
   subst sF;have HX:Hid (X=(0,0,false)):=HN.o (fun p s a b c d=>HP.o p s a b c d);clear HP HY HN CO hp;go_wp2
   go_ret3
   exact ⟨by rw [HX.o];rfl,rfl⟩
def Wp (k n:Nat):Nat:=if k=200 then 6+6*n else if k=201 then 1+6*n else if k=203 then n else if k=205 then 2+n else 2
theorem xL (k n:Nat) (w:World) (hn:n≤100000):Calls Tryz.prog 116 (Qz (k:Int) (n:Int)) w fun e w'=>e = .returned (.int .i64 (Wp k n:Nat))∧w=w':=by
 have HF:Hid (Wp k n=if k=200 then 6+6*n else if k=201 then 1+6*n else if k=203 then n else if k=205 then 2+n else 2):=rfl;generalize Wp k n=x at *
 have w1:IntKind.i64.wrap (6*(n:Int))=6*(n:Int):=Tm _ Zo;have w2:IntKind.i64.wrap (6+6*(n:Int))=6+6*(n:Int):=Tm _ Zo;have w3:IntKind.i64.wrap (1+6*(n:Int))=1+6*(n:Int):=Tm _ Zo;have w4:IntKind.i64.wrap (2+(n:Int))=2+(n:Int):=Tm _ Zo;by_cases k0:k=200
 ·have HX:Hid (x=6+6*n):=by show _=_;rw [HF.o,ZR k0]
  subst k0;exact nr
 by_cases k1:k=201
 ·have HX:Hid (x=1+6*n):=by show _=_;rw [HF.o,Z4 k0,ZR k1]
  subst k1;exact nr
 by_cases k3:k=203
 ·have HX:Hid (x=n):=by show _=_;rw [HF.o,Z4 k0,Z4 k1,ZR k3]
  subst k3;exact nr
 by_cases k5:k=205
 ·have HX:Hid (x=2+n):=by show _=_;rw [HF.o,Z4 k0,Z4 k1,Z4 k3,ZR k5]
  subst k5;exact nr
 have HX:Hid (x=2):=by show _=_;rw [HF.o,Z4 k0,Z4 k1,Z4 k3,Z4 k5]
 have e0:((k:Int) == 200)=false:=by rw [WR];omega
 have e1:((k:Int) == 201)=false:=by rw [WR];omega
 have e3:((k:Int) == 203)=false:=by rw [WR];omega
 have e5:((k:Int) == 205)=false:=by rw [WR];omega
 exact nr
end Go.Proofs.By
