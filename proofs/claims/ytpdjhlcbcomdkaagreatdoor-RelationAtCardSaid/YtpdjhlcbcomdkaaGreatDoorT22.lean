/- Part of a proof. -/
import Derived.Test.YtpdjhlcbcomdkaaGreatDoorT21
set_option linter.unusedVariables false
set_option linter.unusedSimpArgs false
set_option maxRecDepth 100000
set_option maxHeartbeats 16000000
open Go Go.Q Go.Qr Go.Proofs.Tryz
namespace Go.Proofs.By
open Go.RowKit Go.Proofs.Heap Go.Proofs
theorem M9{P:Program}{fn:Func}{p q u:Tmp}{ty tz:TypeId}(h:fn.results=#[.cell p ty,.cell q tz,.tmp u])(tmps:Array Value)(w:World)(g k:Nat)(t s:TypeId)(cs ds:Array Value)(fr fs:Nat×Nat)(d e:TypeDesc)
  (hp:tmps.getD p undef = .pointer (some ⟨g,0,none⟩)) (hq:tmps.getD q undef = .pointer (some ⟨k,0,none⟩)) (hg:w.heap[g]?=some (.cells cs t fr)) (hk:w.heap[k]?=some (.cells ds s fs))
  (hu:P.underlying ty=some d) (hv:P.underlying tz=some e) (hd:(match d with | .struct _ | .array _ _=>true|_=>false)=true) (he:(match e with | .struct _ | .array _ _=>true|_=>false)=true) (hi:(P.info? ty).map (·.size)=some cs.size) (hj:(P.info? tz).map (·.size)=some ds.size) :
  (results fn tmps).run P w = .ok (.tuple #[.agg cs,.agg ds,tmps.getD u undef]) w:=by
 have qj:tmps[p]?.getD undef = .pointer (some ⟨g,0,none⟩):=by simpa using hp
 have gX:tmps[q]?.getD undef = .pointer (some ⟨k,0,none⟩):=by simpa using hq
 simp[results,h,qj,gX,asAddr,run_loadVar_row w g t ty cs fr d hg hu hd hi,run_loadVar_row w k s tz ds fs e hk hv he hj]
theorem Vh{P:Program}{w:World}{op:Oper}{a:Act}(ty:TypeId)(x:Operand)(ho:op.op = .load ty x)(g:Nat)(hx:a.eval x = .pointer (some ⟨g,0,none⟩))(t:TypeId)(cs:Array Value)(fr:Nat×Nat)(d:TypeDesc)(hg:w.heap[g]?=some (.cells cs t fr))
  (hu:P.underlying ty=some d) (hd:(match d with | .struct _ | .array _ _=>true|_=>false)=true) (hi:(P.info? ty).map (·.size)=some cs.size):(execOp a.eval op).run P w = .ok (.value (.agg cs)) w:=by
 unfold execOp;simp only[ho,hx,Instr.loadAt,Instr.sureAddr,Sem.run_bind,Sem.run_pure,Result.andThen_ok,run_loadVar_row w g t ty cs fr d hg hu hd hi]
theorem Vy.setRow{w:World}{p:J4}{cv ev pv:Value}(h:Vy w p cv ev pv){g:Nat}{c:Array Value}{t:TypeId}{f:Nat×Nat}(hg:w.heap[g]?=some (.cells c t f))(h1:66≠t)(h2:5≠t)(cs:Array Value):Vy (w.setRow g cs) p cv ev pv:=
 ⟨Row.setRow h.c hg h1 _,Row.setRow h.e hg h2 _,Row.setRow h.p hg h2 _⟩
def TB(b:List UInt8):(J4×EK)×Int:=if(YM b).2≠0 then((WR,Tn),(YM b).2)else if(Yz (YM b).1.ZE).2≠0 then((WR,Tn),(Yz (YM b).1.ZE).2)else(((YM b).1,(Yz (YM b).1.ZE).1),0)
theorem vg(v:Value)(b:List UInt8)(w:World)(hv:X5 w v b) :
  Calls prog 71 #[v] w fun e w'=>(∃a,e = .returned (.tuple #[a,kO (TB b).1.2,.int .i64 (TB b).2])∧NF w' a (TB b).1.1)∧Below w w w':=by
 have HC:=Zh (fun(w':World) (h:Below w w w')=>qU v b w' (hv.below h));have HX:Hid (TB b=if(YM b).2≠0 then((WR,Tn),(YM b).2)else if(Yz (YM b).1.ZE).2≠0 then((WR,Tn),(Yz (YM b).1.ZE).2)else(((YM b).1,(Yz (YM b).1.ZE).1),0)):=rfl;obtain⟨va,c,rfl,-⟩:=id hv;clear hv;have Vk:Hid (Below w w ((w.alloc (.cells (Qc false 0 0 0 0 none 0 0 false 0 none 0 0 none 0 0 0) 79)).alloc (.cells (Qd 0 false false 0) 81))):=ZF (Z' w _) (Zw _) _;have e1:(w.alloc (.cells (Qc false 0 0 0 0 none 0 0 false 0 none 0 0 none 0 0 0) 79)).heap.size=w.heap.size+1:=by show(w.heap.push _).size=_;rw[Ou]
 have e2:((w.alloc (.cells (Qc false 0 0 0 0 none 0 0 false 0 none 0 0 none 0 0 0) 79)).alloc (.cells (Qd 0 false false 0) 81)).heap.size=w.heap.size+2:=by show((w.alloc (.cells (Qc false 0 0 0 0 none 0 0 false 0 none 0 0 none 0 0 0) 79)).heap.push _).size=_;rw[Ou,e1]
 have z1:((w.alloc (.cells (Qc false 0 0 0 0 none 0 0 false 0 none 0 0 none 0 0 0) 79)).alloc (.cells (Qd 0 false false 0) 81)).heap[w.heap.size+1]?=some (.cells (Qd 0 false false 0) 81 (0,0)):=by
  have h:=Z9 (w.alloc (.cells (Qc false 0 0 0 0 none 0 0 false 0 none 0 0 none 0 0 0) 79)) (.cells (Qd 0 false false 0) 81);rw[e1]at h;exact h
 have z0:((w.alloc (.cells (Qc false 0 0 0 0 none 0 0 false 0 none 0 0 none 0 0 0) 79)).alloc (.cells (Qd 0 false false 0) 81)).heap[w.heap.size]?=some (.cells (Qc false 0 0 0 0 none 0 0 false 0 none 0 0 none 0 0 0) 79 (0,0)):=by
  rw[(Z' (w.alloc (.cells (Qc false 0 0 0 0 none 0 0 false 0 none 0 0 none 0 0 0) 79)) _).block _ (by rw[e1];omega)];exact Z9 w _
 have HZ:Hid (((w.alloc (.cells (Qc false 0 0 0 0 none 0 0 false 0 none 0 0 none 0 0 0) 79)).alloc (.cells (Qd 0 false false 0) 81)).heap[w.heap.size+1]?=some (.cells (Qd 0 false false 0) 81 (0,0))∧((w.alloc (.cells (Qc false 0 0 0 0 none 0 0 false 0 none 0 0 none 0 0 0) 79)).alloc (.cells (Qd 0 false false 0) 81)).heap[w.heap.size]?=some (.cells (Qc false 0 0 0 0 none 0 0 false 0 none 0 0 none 0 0 0) 79 (0,0))∧((w.alloc (.cells (Qc false 0 0 0 0 none 0 0 false 0 none 0 0 none 0 0 0) 79)).alloc (.cells (Qd 0 false false 0) 81)).heap.size=w.heap.size+2):=⟨z1,z0,e2⟩;clear z0 z1 e1 e2;generalize TB b=X at *
 generalize YM b=Y at *
 obtain⟨P,er⟩:=Y;dsimp only at HC HX;go_enter func71,ntmps71;go_upto_region 2 with(go_at_call 94;refine(HC.o _ Vk.o).mono ?_;rintro e w2 ⟨⟨a0,f0,t0,rfl,⟨cv,ev,pv,cX,q1,q2,q3⟩⟩,Zb⟩;obtain⟨ca,cc,Hi,-⟩:=id q1;obtain⟨ea,ec,Kt,-⟩:=id q2;obtain⟨pa,pc,My,-⟩:=id q3;subst Hi;subst Kt;subst My;dsimp only[Gb]at cX;subst cX;have HR:Hid (Vy w2 P (.slice ca P.VF.length cc) (.slice ea P.ext.length ec) (.slice pa P.ZE.length pc)):=⟨q1,q2,q3⟩;have Yg:=Zh Zb;clear q1 q2 q3 Zb)
 clear HC;have G':Hid (Below w w w2):=Tr Vk Yg.o;have qp:w.heap.size+2≤w2.heap.size:=by have:=Yg.o.size;rw[HZ.o.2.2]at this;exact this
 have HY:Hid (∀w',Below w2 w2 w'→w'.heap[w.heap.size+1]?=some (.cells (Qd 0 false false 0) 81 (0,0))∧w'.heap[w.heap.size]?=some (.cells (Qc false 0 0 0 0 none 0 0 false 0 none 0 0 none 0 0 0) 79 (0,0))):=fun w' h=>by
  have k:=HZ.o.2.2;exact⟨(h.block _ Zo).trans ((Yg.o.block _ Zo).trans HZ.o.1),(h.block _ Zo).trans ((Yg.o.block _ Zo).trans HZ.o.2.1)⟩
 have G_:Hid (Below w w (w2.alloc (.cells (Jx P ca cc ea ec pa pc) 79))):=ZF G'.o (Zw _) _;by_cases RM:er=0
 rotate_left
 ·have bl:(er !=0)=true:=by rw[RH];exact RM
  rw[ZU RM]at HX;obtain⟨y1,y0⟩:=HY.o _ (Z' w2 (.cells (Jx P ca cc ea ec pa pc) 79));clear HZ;go_wp2_with (first|(with_reducible refine Zs y0 ?_)|(with_reducible refine Zs ((setRow_other _ _ _ _ Zo).trans y1) ?_))
  refine VD (v:= .tuple (Jp (Qc false 0 0 0 0 none 0 0 false 0 none 0 0 none 0 0 0) (Qd 0 false false 0) er)) ?_ rfl ?_
  ·exact Yt10
  exact⟨⟨_,by rw[HX.o];rfl,by rw[HX.o];exact Gc _⟩,Z0 (Z0 G_.o (Zw _) _) (J_ _) _⟩
 subst RM;have HD:Hid (∀w1,Below w2 w2 w1→Calls prog 95 #[.slice pa P.ZE.length pc] w1 fun e w'=>e = .returned (.tuple (Qo (Qd (Yz P.ZE).1.ZI (Yz P.ZE).1.key (Yz P.ZE).1.start (Yz P.ZE).1.frame) (Yz P.ZE).2))∧Below w1 w1 w'):=fun w1 h=>Bv _ P.ZE w1 (HR.o.p.below h).r
 rw[Z3 Zi]at HX;generalize Yz P.ZE=D at *
 obtain⟨d,de⟩:=D;dsimp only at HD HX;have GU:w2.heap.size<(w2.alloc (.cells (Jx P ca cc ea ec pa pc) 79)).heap.size:=by show _<(w2.heap.push _).size;rw[Ou];exact Nat.lt_succ_self _
 have ZW:=Z9 w2 (.cells (Jx P ca cc ea ec pa pc) 79);go_upto_region 5 with(go_at_call 95;refine(HD.o _ (Z' _ _)).mono ?_;rintro e w3 ⟨rfl,WT⟩;have WU:=Zh WT;have yp:=(WT.block _ GU).trans ZW;have wM:w2.heap.size<w3.heap.size:=OB GU WT.size;clear WT)
 have ei:Hid (Below w2 w2 w3):=(Z' w2 _).trans (WU.o.mono (iO GU));have BS:Hid (Below w w (w3.alloc (.cells (Jt d) 81))):=ZF (G'.o.trans (ei.o.mono G'.o.size)) (Zw _) _;have Mn:=Zh ((HR.o.below ei.o).below (Z' w3 (.cells (Jt d) 81)));have y5:=((Z' w3 (.cells (Jt d) 81)).block _ wM).trans yp;obtain⟨y1,y0⟩:=HY.o _ (ei.o.trans ((Z' w3 (.cells (Jt d) 81)).mono ei.o.size));clear ZW WU HD yp;by_cases dn:de=0
 rotate_left
 ·have bl:(de !=0)=true:=by rw[RH];exact dn
  rw[ZU dn]at HX;go_wp2_with (first|(with_reducible refine Zs y0 ?_)|(with_reducible refine Zs ((setRow_other _ _ _ _ Zo).trans y1) ?_))
  refine VD (v:= .tuple (Jp (Qc false 0 0 0 0 none 0 0 false 0 none 0 0 none 0 0 0) (Qd 0 false false 0) de)) ?_ rfl ?_
  ·exact Yt10
  exact⟨⟨_,by rw[HX.o];rfl,by rw[HX.o];exact Gc _⟩,Z0 (Z0 BS.o (Zw _) _) (J_ _) _⟩
 subst dn;rw[Z3 Zi]at HX;have y6:=Z9 w3 (.cells (Jt d) 81);have bE:=Zh ((YI (w3.alloc (.cells (Jt d) 81)).heap.size (w3.alloc (.cells (Jt d) 81))).drew);have HBV9:=Zh (Tr BS bE.o);have HRV9:=Zh (Mn.o.below bE.o);go_wp2_with fail
 replace y0:=(bE.o.block _ (ZX y0)).trans y0;replace y1:=(bE.o.block _ (ZX y1)).trans y1;replace y5:=(bE.o.block _ (ZX y5)).trans y5;replace y6:=(bE.o.block _ (ZX y6)).trans y6;refine R5 ?_;refine Z_.Zj (d:=3) (S:=(fun w'=>w'.heap[w2.heap.size]?=some (.cells (Jx P ca cc ea ec pa pc) 79 (0,0))∧w'.heap[w3.heap.size]?=some (.cells (Jt d) 81 (0,0)))) Zk ?_ (fun X7=>?_)
 ·exact⟨y5,y6⟩
 refine YK 0 (hy:=by intro wS Ub;refine Vh 79 (.tmp 5) ?_ w2 ?_ 79 (Jx P ca cc ea ec pa pc) (0,0) _ Ub.1 underlying79 rfl Zk;all_goals rfl) (h:=?_);refine YK 1 (hy:=by intro wS Ub;refine Vh 81 (.tmp 9) ?_ w3 ?_ 81 (Jt d) (0,0) _ Ub.2 underlying81 rfl Zk;all_goals rfl) (h:=?_);refine YR 2 (h:=fun K hK=>?_);rw[ZU Zr];refine wp_store_row 79 (.tmp 2) (.tmp 33) rfl w (Jx P ca cc ea ec pa pc) rfl rfl 79 _ y0 Zk Zk Zk ?_;refine Z_.Y9 hK _ _ ?_ (fun XC=>?_)
 ·exact⟨(setRow_other _ _ _ _ Zo).trans y5,(setRow_other _ _ _ _ Zo).trans y6⟩
 clear hK K;try simp only[Z_.pt]
 refine YR 3 (h:=fun K hK=>?_);rw[ZU Zr];refine wp_store_row 81 (.tmp 3) (.tmp 34) rfl (w.heap.size+1) (Jt d) rfl rfl 81 _ ((setRow_other _ _ _ _ Zo).trans y1) Zk Zk Zk ?_;refine Z_.Yf hK _ _ Zk ?_;clear hK K;try simp only[Z_.pt]
 refine YP 4 (h:=?_);refine Z_.Yx Zk ?_ _;refine QZ ?_;go_wp2_with fail
 refine VD (v:= .tuple (Jp (Jx P ca cc ea ec pa pc) (Jt d) 0)) ?_ rfl ?_
 ·exact M9 (p:=2) (q:=3) (u:=4) Zr _ _ w (w.heap.size+1) 79 81 (Jx P ca cc ea ec pa pc) (Jt d) (0,0) (0,0) _ _ Zr Zr ((setRow_other _ _ _ _ Zo).trans (setRow_heap _ _ _ _ _ _ y0)) (setRow_heap _ _ _ _ _ _ ((setRow_other _ _ _ _ Zo).trans y1)) underlying79 underlying81 rfl rfl Zk Zk
 have HRZ:=Vy.setRow (Vy.setRow HRV9.o y0 Zd Zd (Jx P ca cc ea ec pa pc)) ((setRow_other _ _ _ _ Zo).trans y1) Zd Zd (Jt d);exact⟨⟨_,by rw[HX.o];rfl,by rw[HX.o];exact⟨_,_,_,rfl,HRZ.c,HRZ.e,HRZ.p⟩⟩,Z0 (Z0 HBV9.o (Zw _) _) (J_ _) _⟩
theorem q9(v:Value)(n:Nat)(c:List UInt8)(w:World)(hv:X5 w v c)(hn:n≤1000) :
  Calls prog 117 (Ja 203 (n:Int) v) w fun e w'=>(∃a,e = .returned a∧S4 w' a (Xp 203 n c))∧Below w w w':=by
 have CR:=Zh (fun(p q:Int) (w':World) (h:Below w w w')=>Re v c p q w' (hv.below h))
 have HX:Hid (Xp 203 n c=⟨203,0,0,0,0,0,[],T6 c n,0,[]⟩):=by
  show _=_;unfold Xp;simp
 generalize Xp 203 n c=X at *
 have H1:Hid (GI w (((w.alloc (.cells Ya 173)).alloc (.cells Ya 173)).setRow (w.heap.size+1) Yz7a) Yz7):=GI.start w 203
 have hz:((w.alloc (.cells Ya 173)).alloc (.cells Ya 173)).heap[w.heap.size+1]?=some (.cells Ya 173 (0,0)):=by
  exact pF
 clear hv;go_enter func117,ntmps117;go_upto_region 2 with(with_reducible refine Zs hz ?_)
 clear hz;generalize((w.alloc (.cells Ya 173)).alloc (.cells Ya 173)).setRow (w.heap.size+1) Yz7a=w1 at *
 go_wp2_with fail
 go_loopw [8,9] (fun s8 s9 w'=>∃(i pos:Nat) (a:Option Addr) (q:Nat),i≤n∧pos=0+4*i∧s9 = .int .i64 (i:Int)∧s8 = .int .i64 (pos:Int)∧GI w w' (Qe 203 0 0 0 0 0 none 0 0 a i q 0 none 0 0)∧w'.ownsRow w 66 1 (.slice a i q) i (YN (T6 c i))) (fun _ s9 _=>n-(intOf s9).toNat)
 case atStart=>exact⟨0,0,none,0,Zo,Zo,rfl,rfl,H1.o,TV _ _ _ _⟩
 case round=>
  obtain⟨i,pos,a,q,hi,P4,rfl,rfl,Cw,YG⟩:=hrel;have HG:=Zh Cw;have HO:=Zh YG;clear Cw YG H1;by_cases GR:i<n
  ·obtain⟨x0,P7⟩:∃x:Nat,x=get c (pos:Int) 4:=⟨_,rfl⟩
   have Lr:Hid (T6 c (i+1)=T6 c i++[(x0:Int)]):=by
    show _=_;rw[P7,P4];unfold T6;rw[n_,Nv];simp
   have C0:=Zh (fun(w':World) (h:Below w w w')=>CR.o (pos:Int) 4 w' h);rw[←P7]at C0;have Nw:IntKind.u32.wrap (x0:Int)=(x0:Int):=by have:=WV c (pos:Int);rw[Np];omega
   have dL:IntKind.i64.wrap ((pos:Int)+4)=(pos:Int)+4:=Te _ Zo;have Db:pos≤100000:=by omega
   have Ns:=Zh P4;clear P4 P7;go_upto_region 22 with fail
   have HG:=Zh (HG.o.below (YI _ _).drew);have HO:=Zh (Yv HO.o (YI _ _).drew);have k0:(wr.drew).cell? ⟨w.heap.size+1,7,none⟩=some (.slice a i q):=Zc HG.o.Y8 7 rfl;refine R5 ?_;refine Z_.Zj (d:=9) (S:=(fun w'=>w'.cell? ⟨w.heap.size+1,7,none⟩=some (.slice a i q))) X_ ?_ (fun _=>?_)
   ·exact k0
   refine YP 0 (h:=YP 2 (h:=YP 3 (h:=YK 1 (h:=?_))));refine YR 4 (h:=fun K hK=>?_);go_simp;refine(C0.o _ HG.o.Zf).mono ?_;rintro e w' ⟨rfl,rfl⟩;go_wp2_with fail
   refine Z_.Y9 hK _ _ ?_ (fun _=>?_)
   ·first|exact k2|exact k1|exact k0
   clear hK K;try simp only[Z_.pt]
   refine YP 5 (h:=?_);refine YR 6 (h:=fun K hK=>?_);refine Ym Zr Vo (.tmp 100) Zr (.int .u32 (x0:Int)) Zr rfl ?_;have HG:=Zh (HG.o.below (Z' wr.drew (.cells #[.int .u32 (x0:Int)] 66)));have HO:=Zh (Yv HO.o (Z' wr.drew (.cells #[.int .u32 (x0:Int)] 66)));have k1:=cell_of HG.o.Y8 7;simp only[SN,Sy,R4]at k1;refine Z_.Y9 hK _ _ ?_ (fun _=>?_)
   ·first|exact k2|exact k1|exact k0
   clear hK K;try simp only[Z_.pt]
   refine YR 7 (h:=fun K hK=>?_);refine Ze Zr (.tmp 96) (.tmp 101) 29 Zr w Vo (.slice a i q) i (YN (T6 c i)) Zr HO.o _ 1 (YN [(x0:Int)]) Zr (VA wr.drew 66 1 (YN [(x0:Int)]) Zd) rfl (JQ _) Zo Zo ?_ ?_
   ·exact HG.o.Zf.size
   intro v' w6 Hq xd;obtain⟨na,nq,Nr,-⟩:=Row.Z4 Hq.o;subst Nr;have HG:=Zh (HG.o.grown HO.o Zd xd.o);have HO:Hid (w6.ownsRow w 66 1 (.slice na (i+1) nq) (i+1) (YN (T6 c i++[(x0:Int)]))):=(by have h:=Hq.o;rw[show YN (T6 c i)++YN [(x0:Int)]=YN (T6 c i++[(x0:Int)])from(Nv ..).symm]at h;exact h);have k2:=cell_of HG.o.Y8 7;simp only[SN,Sy,R4]at k2;have f2:=ZP HG.o.Y8 7;refine Z_.Y9 hK _ _ ?_ (fun _=>?_)
   ·first|exact k2|exact k1|exact k0
   clear hK K;try simp only[Z_.pt]
   refine YP 8 (h:=?_);refine YR 9 (h:=fun K hK=>?_);go_simp;refine Z_.Yf hK _ _ X_ ?_;clear hK K;try simp only[Z_.pt]
   refine Z_.Yx X_ ?_ _;refine QZ ?_;go_wp2_with fail
   go_roundw
   case rel=>
    refine⟨i+1,pos+4,na,nq,Zo,by have:=Ns.o;omega,Zn,Zn,?_,?_⟩
    ·exact HG.o.set 7 (.slice na (i+1) nq)
    ·rw[Lr.o];exact JG HO.o HG.o.Y8 Zd _ _
   case measure=>simp[intOf];omega
  ·have uF:i=n:=by omega
   subst uF;have SR:=Zh (Row.Z4 HO.o);have TZ:=HG.o.z;have UH:=HG.o.Y8;go_wp2_with (first|(with_reducible refine Zl UH underlying173 ?_)|(with_reducible refine Zs (cells:=(Qe 203 0 0 0 0 0 none 0 0 a i q 0 none 0 0)) TZ ?_))
   refine VD (v:= .agg (Qe 203 0 0 0 0 0 none 0 0 a i q 0 none 0 0)) ?_ rfl ?_
   ·exact results_cell_row Zr _ _ w 173 (Qe 203 0 0 0 0 0 none 0 0 a i q 0 none 0 0) (0,0) _ Zr (setRow_heap _ _ _ _ _ _ TZ) underlying173 rfl X_
   refine⟨⟨_,rfl,?_⟩,Z0 HG.o.Zf (Zw _) _⟩;rw[HX.o];have hr:Ue wr ⟨⟨203,0,0,0,0,0,[],T6 c i,0,[]⟩,.slice none 0 0,.slice a i q,.slice none 0 0⟩:=⟨Row.nil _ _,by show Row wr _ _ (T6 c i).length _;rw[show(T6 c i).length=i by unfold T6;rw[Tx,List.length_range]];exact SR.o,Row.nil _ _⟩;have Mz:=Ue.setRow hr TZ (Qe 203 0 0 0 0 0 none 0 0 a i q 0 none 0 0);exact⟨_,_,_,rfl,Mz.b,Mz.g,Mz.p⟩
end Go.Proofs.By
namespace Go.Proofs.By
open Go.RowKit Go.Proofs.Heap Go.Proofs
theorem zr(v:Value)(n:Nat)(c:List UInt8)(w:World)(hv:X5 w v c)(hn:n≤1000) :
  Calls prog 117 (Ja 205 (n:Int) v) w fun e w'=>(∃a,e = .returned a∧S4 w' a (Xp 205 n c))∧Below w w w':=by
 have CR:=Zh (fun(p q:Int) (w':World) (h:Below w w w')=>Re v c p q w' (hv.below h));obtain⟨ss,L9⟩:∃x:Nat,x=get c 0 4:=⟨_,rfl⟩;have jg:=Zh (fun(w':World) (h:Below w w w')=>CR.o 0 4 w' h);rw[←L9]at jg;have bss:IntKind.u32.wrap (ss:Int)=(ss:Int):=by have:=WV c 0;rw[Np];omega
 obtain⟨md,ah⟩:∃x:Nat,x=get c 4 4:=⟨_,rfl⟩;have Cmd:=Zh (fun(w':World) (h:Below w w w')=>CR.o 4 4 w' h);rw[←ah]at Cmd;have bmd:IntKind.u32.wrap (md:Int)=(md:Int):=by have:=WV c 4;rw[Np];omega
 have HX:Hid (Xp 205 n c=⟨205,(ss:Int),0,0,0,0,[],[],(md:Int),S_ c n⟩):=by
  show _=_;unfold Xp;rw[L9,ah];simp
 generalize Xp 205 n c=X at *
 clear L9 ah;have H1:Hid (GI w (((w.alloc (.cells Ya 173)).alloc (.cells Ya 173)).setRow (w.heap.size+1) Yz8a) Yz8):=GI.start w 205
 have hz:((w.alloc (.cells Ya 173)).alloc (.cells Ya 173)).heap[w.heap.size+1]?=some (.cells Ya 173 (0,0)):=by
  exact pF
 clear hv;go_enter func117,ntmps117;go_upto_region 2 with(with_reducible refine Zs hz ?_)
 clear hz;generalize((w.alloc (.cells Ya 173)).alloc (.cells Ya 173)).setRow (w.heap.size+1) Yz8a=w1 at *
 have z1:=cell_of H1.o.Y8 1;simp only[SN,Sy,R4]at z1;have f1:=ZP H1.o.Y8 1;go_upto_region 5 with(go_at_call 118;refine(jg.o _ H1.o.Zf).mono ?_;rintro e w' ⟨rfl,rfl⟩)
 have H2:Hid (GI w (w1.setCell ⟨w.heap.size+1,1,none⟩ (.int .u32 (ss:Int))) (Qe 205 (ss:Int) 0 0 0 0 none 0 0 none 0 0 0 none 0 0)):=H1.o.set 1 (.int .u32 (ss:Int));clear z1 f1;generalize w1.setCell ⟨w.heap.size+1,1,none⟩ (.int .u32 (ss:Int))=w2 at *
 have z2:=cell_of H2.o.Y8 8;simp only[SN,Sy,R4]at z2;have f2:=ZP H2.o.Y8 8;go_upto_region 14 with(go_at_call 118;refine(Cmd.o _ H2.o.Zf).mono ?_;rintro e w' ⟨rfl,rfl⟩)
 have H3:Hid (GI w (w2.setCell ⟨w.heap.size+1,8,none⟩ (.int .u32 (md:Int))) (Qe 205 (ss:Int) 0 0 0 0 none 0 0 none 0 0 (md:Int) none 0 0)):=H2.o.set 8 (.int .u32 (md:Int));clear z2 f2;generalize w2.setCell ⟨w.heap.size+1,8,none⟩ (.int .u32 (md:Int))=w3 at *
 go_wp2_with fail
 go_loopw [8,9] (fun s8 s9 w'=>∃(i pos:Nat) (a:Option Addr) (q:Nat),i≤n∧pos=8+4*i∧s9 = .int .i64 (i:Int)∧s8 = .int .i64 (pos:Int)∧GI w w' (Qe 205 (ss:Int) 0 0 0 0 none 0 0 none 0 0 (md:Int) a i q)∧w'.ownsRow w 226 2 (.slice a i q) i ((S_ c i).flatMap Wb)) (fun _ s9 _=>n-(intOf s9).toNat)
 case atStart=>exact⟨0,8,none,0,Zo,Zo,rfl,rfl,H3.o,TV _ _ _ _⟩
 case round=>
  obtain⟨i,pos,a,q,hi,P4,rfl,rfl,Cw,YG⟩:=hrel;have HG:=Zh Cw;have HO:=Zh YG;clear Cw YG H3;by_cases GR:i<n
  ·obtain⟨x0,P7⟩:∃x:Nat,x=get c (pos:Int) 2:=⟨_,rfl⟩;obtain⟨x1,SF⟩:∃x:Nat,x=get c ((pos:Int)+2) 2:=⟨_,rfl⟩
   have Lr:Hid (S_ c (i+1)=S_ c i++[((x0:Int),(x1:Int))]):=by
    show _=_;rw[P7,SF,P4];unfold S_;rw[n_,Nv];rfl
   have C0:=Zh (fun(w':World) (h:Below w w w')=>CR.o (pos:Int) 2 w' h);rw[←P7]at C0;have Nw:IntKind.u16.wrap (x0:Int)=(x0:Int):=by have:=Mw c (pos:Int);rw[IntKind.wrap_u16];omega
   have C1:=Zh (fun(w':World) (h:Below w w w')=>CR.o ((pos:Int)+2) 2 w' h);rw[←SF]at C1;have YZ:IntKind.u16.wrap (x1:Int)=(x1:Int):=by have:=Mw c ((pos:Int)+2);rw[IntKind.wrap_u16];omega
   have Da:IntKind.i64.wrap ((pos:Int)+2)=(pos:Int)+2:=Te _ Zo;have dL:IntKind.i64.wrap ((pos:Int)+4)=(pos:Int)+4:=Te _ Zo;have Db:pos≤100000:=by omega
   have Ns:=Zh P4;clear P4 P7 SF;go_upto_region 25 with fail
   have HG:=Zh (HG.o.below (YI _ _).drew);have HO:=Zh (Yv HO.o (YI _ _).drew);have k0:(wr.drew).cell? ⟨w.heap.size+1,9,none⟩=some (.slice a i q):=Zc HG.o.Y8 9 rfl;refine R5 ?_;refine Z_.Zj (d:=15) (S:=(fun w'=>w'.cell? ⟨w.heap.size+1,9,none⟩=some (.slice a i q))) X_ ?_ (fun _=>?_)
   ·exact k0
   refine YP 0 (h:=YP 2 (h:=YP 3 (h:=YP 6 (h:=YP 7 (h:=YP 8 (h:=YK 1 (h:=?_)))))));refine YR 4 (h:=fun K hK=>?_);go_simp;refine(C0.o _ HG.o.Zf).mono ?_;rintro e w' ⟨rfl,rfl⟩;go_wp2_with fail
   refine Z_.Y9 hK _ _ ?_ (fun _=>?_)
   ·first|exact k2|exact k1|exact k0
   clear hK K;try simp only[Z_.pt]
   refine YP 5 (h:=?_);refine YR 9 (h:=fun K hK=>?_);go_simp;refine(C1.o _ HG.o.Zf).mono ?_;rintro e w' ⟨rfl,rfl⟩;go_wp2_with fail
   refine Z_.Y9 hK _ _ ?_ (fun _=>?_)
   ·first|exact k2|exact k1|exact k0
   clear hK K;try simp only[Z_.pt]
   refine YP 10 (h:=YP 11 (h:=?_));refine YR 12 (h:=fun K hK=>?_);refine Xe Zr Kj (.tmp 119) Zr (Qy (x0:Int) (x1:Int)) Zr Zr Zd ?_;have HG:=Zh (HG.o.below (Z' wr.drew (.cells (Qy (x0:Int) (x1:Int)) 226)));have HO:=Zh (Yv HO.o (Z' wr.drew (.cells (Qy (x0:Int) (x1:Int)) 226)));have k1:=cell_of HG.o.Y8 9;simp only[SN,Sy,R4]at k1;refine Z_.Y9 hK _ _ ?_ (fun _=>?_)
   ·first|exact k2|exact k1|exact k0
   clear hK K;try simp only[Z_.pt]
   refine YR 13 (h:=fun K hK=>?_);refine Ze Zr (.tmp 109) (.tmp 120) 171 Zr w Kj (.slice a i q) i ((S_ c i).flatMap Wb) Zr HO.o _ 1 ([((x0:Int),(x1:Int))].flatMap Wb) Zr (VA wr.drew 226 1 ([((x0:Int),(x1:Int))].flatMap Wb) Zd) rfl (U6 fun x _=>y_ x) Zo Zo ?_ ?_
   ·exact HG.o.Zf.size
   intro v' w6 Hq xd;obtain⟨na,nq,Nr,-⟩:=Row.Z4 Hq.o;subst Nr;have HG:=Zh (HG.o.grown HO.o Zd xd.o);have HO:Hid (w6.ownsRow w 226 2 (.slice na (i+1) nq) (i+1) ((S_ c i++[((x0:Int),(x1:Int))]).flatMap Wb)):=(by have h:=Hq.o;rw[←OD]at h;exact h);have k2:=cell_of HG.o.Y8 9;simp only[SN,Sy,R4]at k2;have f2:=ZP HG.o.Y8 9;refine Z_.Y9 hK _ _ ?_ (fun _=>?_)
   ·first|exact k2|exact k1|exact k0
   clear hK K;try simp only[Z_.pt]
   refine YP 14 (h:=?_);refine YR 15 (h:=fun K hK=>?_);go_simp;refine Z_.Yf hK _ _ X_ ?_;clear hK K;try simp only[Z_.pt]
   refine Z_.Yx X_ ?_ _;refine QZ ?_;go_wp2_with fail
   go_roundw
   case rel=>
    refine⟨i+1,pos+4,na,nq,Zo,by have:=Ns.o;omega,Zn,Zn,?_,?_⟩
    ·exact HG.o.set 9 (.slice na (i+1) nq)
    ·rw[Lr.o];exact JG HO.o HG.o.Y8 Zd _ _
   case measure=>simp[intOf];omega
  ·have uF:i=n:=by omega
   subst uF;have SR:=Zh (Row.Z4 HO.o);have TZ:=HG.o.z;have UH:=HG.o.Y8;go_wp2_with (first|(with_reducible refine Zl UH underlying173 ?_)|(with_reducible refine Zs (cells:=(Qe 205 (ss:Int) 0 0 0 0 none 0 0 none 0 0 (md:Int) a i q)) TZ ?_))
   refine VD (v:= .agg (Qe 205 (ss:Int) 0 0 0 0 none 0 0 none 0 0 (md:Int) a i q)) ?_ rfl ?_
   ·exact results_cell_row Zr _ _ w 173 (Qe 205 (ss:Int) 0 0 0 0 none 0 0 none 0 0 (md:Int) a i q) (0,0) _ Zr (setRow_heap _ _ _ _ _ _ TZ) underlying173 rfl X_
   refine⟨⟨_,rfl,?_⟩,Z0 HG.o.Zf (Zw _) _⟩;rw[HX.o];have hr:Ue wr ⟨⟨205,(ss:Int),0,0,0,0,[],[],(md:Int),S_ c i⟩,.slice none 0 0,.slice none 0 0,.slice a i q⟩:=⟨Row.nil _ _,Row.nil _ _,by show Row wr _ _ (S_ c i).length _;rw[show(S_ c i).length=i by unfold S_;rw[Tx,List.length_range]];exact SR.o⟩;have Mz:=Ue.setRow hr TZ (Qe 205 (ss:Int) 0 0 0 0 none 0 0 none 0 0 (md:Int) a i q);exact⟨_,_,_,rfl,Mz.b,Mz.g,Mz.p⟩
theorem vA(v:Value)(n:Nat)(c:List UInt8)(w:World)(hv:X5 w v c)(hn:n≤1000) :
  Calls prog 117 (Ja 201 (n:Int) v) w fun e w'=>(∃a,e = .returned a∧S4 w' a (Xp 201 n c))∧Below w w w':=by
 have CR:=Zh (fun(p q:Int) (w':World) (h:Below w w w')=>Re v c p q w' (hv.below h));obtain⟨ss,L9⟩:∃x:Nat,x=get c 0 4:=⟨_,rfl⟩;have jg:=Zh (fun(w':World) (h:Below w w w')=>CR.o 0 4 w' h);rw[←L9]at jg;have bss:IntKind.u32.wrap (ss:Int)=(ss:Int):=by have:=WV c 0;rw[Np];omega
 have HX:Hid (Xp 201 n c=⟨201,(ss:Int),0,0,0,0,Vf c 4 n,[],0,[]⟩):=by
  show _=_;unfold Xp;rw[L9];simp
 generalize Xp 201 n c=X at *
 clear L9;have H1:Hid (GI w (((w.alloc (.cells Ya 173)).alloc (.cells Ya 173)).setRow (w.heap.size+1) Yz9a) Yz9):=GI.start w 201
 have hz:((w.alloc (.cells Ya 173)).alloc (.cells Ya 173)).heap[w.heap.size+1]?=some (.cells Ya 173 (0,0)):=by
  exact pF
 clear hv;go_enter func117,ntmps117;go_upto_region 2 with(with_reducible refine Zs hz ?_)
 clear hz;generalize((w.alloc (.cells Ya 173)).alloc (.cells Ya 173)).setRow (w.heap.size+1) Yz9a=w1 at *
 have z1:=cell_of H1.o.Y8 1;simp only[SN,Sy,R4]at z1;have f1:=ZP H1.o.Y8 1;go_upto_region 5 with(go_at_call 118;refine(jg.o _ H1.o.Zf).mono ?_;rintro e w' ⟨rfl,rfl⟩)
 have H2:Hid (GI w (w1.setCell ⟨w.heap.size+1,1,none⟩ (.int .u32 (ss:Int))) (Qe 201 (ss:Int) 0 0 0 0 none 0 0 none 0 0 0 none 0 0)):=H1.o.set 1 (.int .u32 (ss:Int));clear z1 f1;generalize w1.setCell ⟨w.heap.size+1,1,none⟩ (.int .u32 (ss:Int))=w2 at *
 go_wp2_with fail
 go_loopw [8,9] (fun s8 s9 w'=>∃(i pos:Nat) (a:Option Addr) (q:Nat),i≤n∧pos=4+24*i∧s9 = .int .i64 (i:Int)∧s8 = .int .i64 (pos:Int)∧GI w w' (Qe 201 (ss:Int) 0 0 0 0 a i q none 0 0 0 none 0 0)∧w'.ownsRow w 228 7 (.slice a i q) i ((Vf c 4 i).flatMap W_)) (fun _ s9 _=>n-(intOf s9).toNat)
 case atStart=>exact⟨0,4,none,0,Zo,Zo,rfl,rfl,H2.o,TV _ _ _ _⟩
 case round=>
  obtain⟨i,pos,a,q,hi,P4,rfl,rfl,Cw,YG⟩:=hrel;have HG:=Zh Cw;have HO:=Zh YG;clear Cw YG H2;by_cases GR:i<n
  ·obtain⟨x0,P7⟩:∃x:Nat,x=get c (pos:Int) 4:=⟨_,rfl⟩;obtain⟨x1,SF⟩:∃x:Nat,x=get c ((pos:Int)+4) 1:=⟨_,rfl⟩;obtain⟨x2,NK⟩:∃x:Nat,x=get c ((pos:Int)+5) 3:=⟨_,rfl⟩;obtain⟨x3,SQ⟩:∃x:Nat,x=get c ((pos:Int)+8) 4:=⟨_,rfl⟩;obtain⟨x4,Li⟩:∃x:Nat,x=get c ((pos:Int)+12) 4:=⟨_,rfl⟩;obtain⟨x5,Io⟩:∃x:Nat,x=get c ((pos:Int)+16) 4:=⟨_,rfl⟩;obtain⟨x6,aN⟩:∃x:Nat,x=get c ((pos:Int)+20) 4:=⟨_,rfl⟩
   have Lr:Hid (Vf c 4 (i+1)=Vf c 4 i++[⟨x0,x1,x2,x3,x4,x5,x6⟩]):=by
    show _=_;rw[P7,SF,NK,SQ,Li,Io,aN,P4];unfold Vf;rw[n_,Nv];rfl
   have C0:=Zh (fun(w':World) (h:Below w w w')=>CR.o (pos:Int) 4 w' h);rw[←P7]at C0;have Nw:IntKind.u32.wrap (x0:Int)=(x0:Int):=by have:=WV c (pos:Int);rw[Np];omega
   have C1:=Zh (fun(w':World) (h:Below w w w')=>CR.o ((pos:Int)+4) 1 w' h);rw[←SF]at C1;have YZ:IntKind.u8.wrap (x1:Int)=(x1:Int):=by have:=r9 c ((pos:Int)+4);rw[IntKind.wrap_u8];omega
   have Da:IntKind.i64.wrap ((pos:Int)+4)=(pos:Int)+4:=Te _ Zo;have C2:=Zh (fun(w':World) (h:Below w w w')=>CR.o ((pos:Int)+5) 3 w' h);rw[←NK]at C2;have Zb:IntKind.u32.wrap (x2:Int)=(x2:Int):=by have:=r_ c ((pos:Int)+5);rw[Np];omega
   have hp2:IntKind.i64.wrap ((pos:Int)+5)=(pos:Int)+5:=Te _ Zo;have C3:=Zh (fun(w':World) (h:Below w w w')=>CR.o ((pos:Int)+8) 4 w' h);rw[←SQ]at C3;have WT:IntKind.u32.wrap (x3:Int)=(x3:Int):=by have:=WV c ((pos:Int)+8);rw[Np];omega
   have hp3:IntKind.i64.wrap ((pos:Int)+8)=(pos:Int)+8:=Te _ Zo;have C4:=Zh (fun(w':World) (h:Below w w w')=>CR.o ((pos:Int)+12) 4 w' h);rw[←Li]at C4;have TW:IntKind.u32.wrap (x4:Int)=(x4:Int):=by have:=WV c ((pos:Int)+12);rw[Np];omega
   have hp4:IntKind.i64.wrap ((pos:Int)+12)=(pos:Int)+12:=Te _ Zo;have C5:=Zh (fun(w':World) (h:Below w w w')=>CR.o ((pos:Int)+16) 4 w' h);rw[←Io]at C5;have NI:IntKind.u32.wrap (x5:Int)=(x5:Int):=by have:=WV c ((pos:Int)+16);rw[Np];omega
   have hp5:IntKind.i64.wrap ((pos:Int)+16)=(pos:Int)+16:=Te _ Zo;have C6:=Zh (fun(w':World) (h:Below w w w')=>CR.o ((pos:Int)+20) 4 w' h);rw[←aN]at C6;have Cv:IntKind.u32.wrap (x6:Int)=(x6:Int):=by have:=WV c ((pos:Int)+20);rw[Np];omega
   have hp6:IntKind.i64.wrap ((pos:Int)+20)=(pos:Int)+20:=Te _ Zo;have dL:IntKind.i64.wrap ((pos:Int)+24)=(pos:Int)+24:=Te _ Zo;have Db:pos≤100000:=by omega
   have Ns:=Zh P4;clear P4 P7 SF NK SQ Li Io aN;go_upto_region 19 with fail
   have HG:=Zh (HG.o.below (YI _ _).drew);have HO:=Zh (Yv HO.o (YI _ _).drew);have k0:(wr.drew).cell? ⟨w.heap.size+1,6,none⟩=some (.slice a i q):=Zc HG.o.Y8 6 rfl;refine R5 ?_;refine Z_.Zj (d:=40) (S:=(fun w'=>w'.cell? ⟨w.heap.size+1,6,none⟩=some (.slice a i q))) X_ ?_ (fun _=>?_)
   ·exact k0
   refine YP 0 (h:=YP 2 (h:=YP 3 (h:=YP 6 (h:=YP 7 (h:=YP 8 (h:=YP 11 (h:=YP 12 (h:=YP 13 (h:=YP 16 (h:=YP 17 (h:=YP 18 (h:=YP 21 (h:=YP 22 (h:=YP 23 (h:=YP 26 (h:=YP 27 (h:=YP 28 (h:=YP 31 (h:=YP 32 (h:=YP 33 (h:=YK 1 (h:=?_))))))))))))))))))))));refine YR 4 (h:=fun K hK=>?_);go_simp;refine(C0.o _ HG.o.Zf).mono ?_;rintro e w' ⟨rfl,rfl⟩;go_wp2_with fail
   refine Z_.Y9 hK _ _ ?_ (fun _=>?_)
   ·first|exact k2|exact k1|exact k0
   clear hK K;try simp only[Z_.pt]
   refine YP 5 (h:=?_);refine YR 9 (h:=fun K hK=>?_);go_simp;refine(C1.o _ HG.o.Zf).mono ?_;rintro e w' ⟨rfl,rfl⟩;go_wp2_with fail
   refine Z_.Y9 hK _ _ ?_ (fun _=>?_)
   ·first|exact k2|exact k1|exact k0
   clear hK K;try simp only[Z_.pt]
   refine YP 10 (h:=?_);refine YR 14 (h:=fun K hK=>?_);go_simp;refine(C2.o _ HG.o.Zf).mono ?_;rintro e w' ⟨rfl,rfl⟩;go_wp2_with fail
   refine Z_.Y9 hK _ _ ?_ (fun _=>?_)
   ·first|exact k2|exact k1|exact k0
   clear hK K;try simp only[Z_.pt]
   refine YP 15 (h:=?_);refine YR 19 (h:=fun K hK=>?_);go_simp;refine(C3.o _ HG.o.Zf).mono ?_;rintro e w' ⟨rfl,rfl⟩;go_wp2_with fail
   refine Z_.Y9 hK _ _ ?_ (fun _=>?_)
   ·first|exact k2|exact k1|exact k0
   clear hK K;try simp only[Z_.pt]
   refine YP 20 (h:=?_);refine YR 24 (h:=fun K hK=>?_);go_simp;refine(C4.o _ HG.o.Zf).mono ?_;rintro e w' ⟨rfl,rfl⟩;go_wp2_with fail
   refine Z_.Y9 hK _ _ ?_ (fun _=>?_)
   ·first|exact k2|exact k1|exact k0
   clear hK K;try simp only[Z_.pt]
   refine YP 25 (h:=?_);refine YR 29 (h:=fun K hK=>?_);go_simp;refine(C5.o _ HG.o.Zf).mono ?_;rintro e w' ⟨rfl,rfl⟩;go_wp2_with fail
   refine Z_.Y9 hK _ _ ?_ (fun _=>?_)
   ·first|exact k2|exact k1|exact k0
   clear hK K;try simp only[Z_.pt]
   refine YP 30 (h:=?_);refine YR 34 (h:=fun K hK=>?_);go_simp;refine(C6.o _ HG.o.Zf).mono ?_;rintro e w' ⟨rfl,rfl⟩;go_wp2_with fail
   refine Z_.Y9 hK _ _ ?_ (fun _=>?_)
   ·first|exact k2|exact k1|exact k0
   clear hK K;try simp only[Z_.pt]
   refine YP 35 (h:=YP 36 (h:=?_));refine YR 37 (h:=fun K hK=>?_);refine Xe Zr Mt (.tmp 87) Zr (Qs (x0:Int) (x1:Int) (x2:Int) (x3:Int) (x4:Int) (x5:Int) (x6:Int)) Zr Zr Zd ?_;have HG:=Zh (HG.o.below (Z' wr.drew (.cells (Qs (x0:Int) (x1:Int) (x2:Int) (x3:Int) (x4:Int) (x5:Int) (x6:Int)) 228)));have HO:=Zh (Yv HO.o (Z' wr.drew (.cells (Qs (x0:Int) (x1:Int) (x2:Int) (x3:Int) (x4:Int) (x5:Int) (x6:Int)) 228)));have k1:=cell_of HG.o.Y8 6;simp only[SN,Sy,R4]at k1;refine Z_.Y9 hK _ _ ?_ (fun _=>?_)
   ·first|exact k2|exact k1|exact k0
   clear hK K;try simp only[Z_.pt]
   refine YR 38 (h:=fun K hK=>?_);refine Ze Zr (.tmp 52) (.tmp 88) 170 Zr w Mt (.slice a i q) i ((Vf c 4 i).flatMap W_) Zr HO.o _ 1 ([(⟨x0,x1,x2,x3,x4,x5,x6⟩:oD)].flatMap W_) Zr (VA wr.drew 228 1 ([(⟨x0,x1,x2,x3,x4,x5,x6⟩:oD)].flatMap W_) Zd) rfl (U6 fun x _=>AQ x) Zo Zo ?_ ?_
   ·exact HG.o.Zf.size
   intro v' w6 Hq xd;obtain⟨na,nq,Nr,-⟩:=Row.Z4 Hq.o;subst Nr;have HG:=Zh (HG.o.grown HO.o Zd xd.o);have HO:Hid (w6.ownsRow w 228 7 (.slice na (i+1) nq) (i+1) ((Vf c 4 i++[(⟨x0,x1,x2,x3,x4,x5,x6⟩:oD)]).flatMap W_)):=(by have h:=Hq.o;rw[←OD]at h;exact h);exact Yx50
  ·have uF:i=n:=by omega
   subst uF;have SR:=Zh (Row.Z4 HO.o);have TZ:=HG.o.z;have UH:=HG.o.Y8;go_wp2_with (first|(with_reducible refine Zl UH underlying173 ?_)|(with_reducible refine Zs (cells:=(Qe 201 (ss:Int) 0 0 0 0 a i q none 0 0 0 none 0 0)) TZ ?_))
   refine VD (v:= .agg (Qe 201 (ss:Int) 0 0 0 0 a i q none 0 0 0 none 0 0)) ?_ rfl ?_
   ·exact results_cell_row Zr _ _ w 173 (Qe 201 (ss:Int) 0 0 0 0 a i q none 0 0 0 none 0 0) (0,0) _ Zr (setRow_heap _ _ _ _ _ _ TZ) underlying173 rfl X_
   refine⟨⟨_,rfl,?_⟩,Z0 HG.o.Zf (Zw _) _⟩;rw[HX.o];have hr:Ue wr ⟨⟨201,(ss:Int),0,0,0,0,Vf c 4 i,[],0,[]⟩,.slice a i q,.slice none 0 0,.slice none 0 0⟩:=⟨by show Row wr _ _ (Vf c 4 i).length _;rw[show(Vf c 4 i).length=i by unfold Vf;rw[Tx,List.length_range]];exact SR.o,Row.nil _ _,Row.nil _ _⟩;have Mz:=Ue.setRow hr TZ (Qe 201 (ss:Int) 0 0 0 0 a i q none 0 0 0 none 0 0);exact⟨_,_,_,rfl,Mz.b,Mz.g,Mz.p⟩
end Go.Proofs.By
namespace Go.Proofs.By
open Go.RowKit Go.Proofs.Heap Go.Proofs
theorem vB(v:Value)(n:Nat)(c:List UInt8)(w:World)(hv:X5 w v c)(hn:n≤1000) :
  Calls prog 117 (Ja 200 (n:Int) v) w fun e w'=>(∃a,e = .returned a∧S4 w' a (Xp 200 n c))∧Below w w w':=by
 have CR:=Zh (fun(p q:Int) (w':World) (h:Below w w w')=>Re v c p q w' (hv.below h));obtain⟨ss,L9⟩:∃x:Nat,x=get c 0 4:=⟨_,rfl⟩;have jg:=Zh (fun(w':World) (h:Below w w w')=>CR.o 0 4 w' h);rw[←L9]at jg;have bss:IntKind.u32.wrap (ss:Int)=(ss:Int):=by have:=WV c 0;rw[Np];omega
 obtain⟨nt,hnt⟩:∃x:Nat,x=get c 4 8:=⟨_,rfl⟩;have Cnt:=Zh (fun(w':World) (h:Below w w w')=>CR.o 4 8 w' h);rw[←hnt]at Cnt;obtain⟨tm,aK⟩:∃x:Nat,x=get c 12 4:=⟨_,rfl⟩;have Ctm:=Zh (fun(w':World) (h:Below w w w')=>CR.o 12 4 w' h);rw[←aK]at Ctm;have btm:IntKind.u32.wrap (tm:Int)=(tm:Int):=by have:=WV c 12;rw[Np];omega
 obtain⟨pk,ay⟩:∃x:Nat,x=get c 16 4:=⟨_,rfl⟩;have Cpk:=Zh (fun(w':World) (h:Below w w w')=>CR.o 16 4 w' h);rw[←ay]at Cpk;have bpk:IntKind.u32.wrap (pk:Int)=(pk:Int):=by have:=WV c 16;rw[Np];omega
 obtain⟨oc,hoc⟩:∃x:Nat,x=get c 20 4:=⟨_,rfl⟩;have Coc:=Zh (fun(w':World) (h:Below w w w')=>CR.o 20 4 w' h);rw[←hoc]at Coc;have boc:IntKind.u32.wrap (oc:Int)=(oc:Int):=by have:=WV c 20;rw[Np];omega
 have HX:Hid (Xp 200 n c=⟨200,(ss:Int),(nt:Int),(tm:Int),(pk:Int),(oc:Int),Vf c 24 n,[],0,[]⟩):=by
  show _=_;unfold Xp;rw[L9,hnt,aK,ay,hoc];simp
 generalize Xp 200 n c=X at *
 clear L9 hnt aK ay hoc;have H1:Hid (GI w (((w.alloc (.cells Ya 173)).alloc (.cells Ya 173)).setRow (w.heap.size+1) cK) Yz10):=GI.start w 200
 have hz:((w.alloc (.cells Ya 173)).alloc (.cells Ya 173)).heap[w.heap.size+1]?=some (.cells Ya 173 (0,0)):=by
  exact pF
 clear hv;go_enter func117,ntmps117;go_upto_region 2 with(with_reducible refine Zs hz ?_)
 clear hz;generalize((w.alloc (.cells Ya 173)).alloc (.cells Ya 173)).setRow (w.heap.size+1) cK=w1 at *
 have z1:=cell_of H1.o.Y8 1;simp only[SN,Sy,R4]at z1;have f1:=ZP H1.o.Y8 1;go_upto_region 5 with(go_at_call 118;refine(jg.o _ H1.o.Zf).mono ?_;rintro e w' ⟨rfl,rfl⟩)
 have H2:Hid (GI w (w1.setCell ⟨w.heap.size+1,1,none⟩ (.int .u32 (ss:Int))) (Qe 200 (ss:Int) 0 0 0 0 none 0 0 none 0 0 0 none 0 0)):=H1.o.set 1 (.int .u32 (ss:Int));clear z1 f1;generalize w1.setCell ⟨w.heap.size+1,1,none⟩ (.int .u32 (ss:Int))=w2 at *
 have z2:=cell_of H2.o.Y8 2;simp only[SN,Sy,R4]at z2;have f2:=ZP H2.o.Y8 2;go_upto_region 8 with(go_at_call 118;refine(Cnt.o _ H2.o.Zf).mono ?_;rintro e w' ⟨rfl,rfl⟩)
 have H3:Hid (GI w (w2.setCell ⟨w.heap.size+1,2,none⟩ (.int .u64 (nt:Int))) (Qe 200 (ss:Int) (nt:Int) 0 0 0 none 0 0 none 0 0 0 none 0 0)):=H2.o.set 2 (.int .u64 (nt:Int));clear z2 f2;generalize w2.setCell ⟨w.heap.size+1,2,none⟩ (.int .u64 (nt:Int))=w3 at *
 have z3:=cell_of H3.o.Y8 3;simp only[SN,Sy,R4]at z3;have f3:=ZP H3.o.Y8 3;go_upto_region 9 with(go_at_call 118;refine(Ctm.o _ H3.o.Zf).mono ?_;rintro e w' ⟨rfl,rfl⟩)
 have H4:Hid (GI w (w3.setCell ⟨w.heap.size+1,3,none⟩ (.int .u32 (tm:Int))) (Qe 200 (ss:Int) (nt:Int) (tm:Int) 0 0 none 0 0 none 0 0 0 none 0 0)):=H3.o.set 3 (.int .u32 (tm:Int));clear z3 f3;generalize w3.setCell ⟨w.heap.size+1,3,none⟩ (.int .u32 (tm:Int))=w4 at *
 have z4:=cell_of H4.o.Y8 4;simp only[SN,Sy,R4]at z4;have f4:=ZP H4.o.Y8 4;go_upto_region 10 with(go_at_call 118;refine(Cpk.o _ H4.o.Zf).mono ?_;rintro e w' ⟨rfl,rfl⟩)
 have H5:Hid (GI w (w4.setCell ⟨w.heap.size+1,4,none⟩ (.int .u32 (pk:Int))) (Qe 200 (ss:Int) (nt:Int) (tm:Int) (pk:Int) 0 none 0 0 none 0 0 0 none 0 0)):=H4.o.set 4 (.int .u32 (pk:Int));clear z4 f4;generalize w4.setCell ⟨w.heap.size+1,4,none⟩ (.int .u32 (pk:Int))=w5 at *
 have z5:=cell_of H5.o.Y8 5;simp only[SN,Sy,R4]at z5;have f5:=ZP H5.o.Y8 5;go_upto_region 11 with(go_at_call 118;refine(Coc.o _ H5.o.Zf).mono ?_;rintro e w' ⟨rfl,rfl⟩)
 have H6:Hid (GI w (w5.setCell ⟨w.heap.size+1,5,none⟩ (.int .u32 (oc:Int))) (Qe 200 (ss:Int) (nt:Int) (tm:Int) (pk:Int) (oc:Int) none 0 0 none 0 0 0 none 0 0)):=H5.o.set 5 (.int .u32 (oc:Int));clear z5 f5;generalize w5.setCell ⟨w.heap.size+1,5,none⟩ (.int .u32 (oc:Int))=w6 at *
 go_wp2_with fail
 go_loopw [8,9] (fun s8 s9 w'=>∃(i pos:Nat) (a:Option Addr) (q:Nat),i≤n∧pos=24+24*i∧s9 = .int .i64 (i:Int)∧s8 = .int .i64 (pos:Int)∧GI w w' (Qe 200 (ss:Int) (nt:Int) (tm:Int) (pk:Int) (oc:Int) a i q none 0 0 0 none 0 0)∧w'.ownsRow w 228 7 (.slice a i q) i ((Vf c 24 i).flatMap W_)) (fun _ s9 _=>n-(intOf s9).toNat)
 case atStart=>exact⟨0,24,none,0,Zo,Zo,rfl,rfl,H6.o,TV _ _ _ _⟩
 case round=>
  obtain⟨i,pos,a,q,hi,P4,rfl,rfl,Cw,YG⟩:=hrel;have HG:=Zh Cw;have HO:=Zh YG;clear Cw YG H6;by_cases GR:i<n
  ·obtain⟨x0,P7⟩:∃x:Nat,x=get c (pos:Int) 4:=⟨_,rfl⟩;obtain⟨x1,SF⟩:∃x:Nat,x=get c ((pos:Int)+4) 1:=⟨_,rfl⟩;obtain⟨x2,NK⟩:∃x:Nat,x=get c ((pos:Int)+5) 3:=⟨_,rfl⟩;obtain⟨x3,SQ⟩:∃x:Nat,x=get c ((pos:Int)+8) 4:=⟨_,rfl⟩;obtain⟨x4,Li⟩:∃x:Nat,x=get c ((pos:Int)+12) 4:=⟨_,rfl⟩;obtain⟨x5,Io⟩:∃x:Nat,x=get c ((pos:Int)+16) 4:=⟨_,rfl⟩;obtain⟨x6,aN⟩:∃x:Nat,x=get c ((pos:Int)+20) 4:=⟨_,rfl⟩
   have Lr:Hid (Vf c 24 (i+1)=Vf c 24 i++[⟨x0,x1,x2,x3,x4,x5,x6⟩]):=by
    show _=_;rw[P7,SF,NK,SQ,Li,Io,aN,P4];unfold Vf;rw[n_,Nv];rfl
   have C0:=Zh (fun(w':World) (h:Below w w w')=>CR.o (pos:Int) 4 w' h);rw[←P7]at C0;have Nw:IntKind.u32.wrap (x0:Int)=(x0:Int):=by have:=WV c (pos:Int);rw[Np];omega
   have C1:=Zh (fun(w':World) (h:Below w w w')=>CR.o ((pos:Int)+4) 1 w' h);rw[←SF]at C1;have YZ:IntKind.u8.wrap (x1:Int)=(x1:Int):=by have:=r9 c ((pos:Int)+4);rw[IntKind.wrap_u8];omega
   have Da:IntKind.i64.wrap ((pos:Int)+4)=(pos:Int)+4:=Te _ Zo;have C2:=Zh (fun(w':World) (h:Below w w w')=>CR.o ((pos:Int)+5) 3 w' h);rw[←NK]at C2;have Zb:IntKind.u32.wrap (x2:Int)=(x2:Int):=by have:=r_ c ((pos:Int)+5);rw[Np];omega
   have hp2:IntKind.i64.wrap ((pos:Int)+5)=(pos:Int)+5:=Te _ Zo;have C3:=Zh (fun(w':World) (h:Below w w w')=>CR.o ((pos:Int)+8) 4 w' h);rw[←SQ]at C3;have WT:IntKind.u32.wrap (x3:Int)=(x3:Int):=by have:=WV c ((pos:Int)+8);rw[Np];omega
   have hp3:IntKind.i64.wrap ((pos:Int)+8)=(pos:Int)+8:=Te _ Zo;have C4:=Zh (fun(w':World) (h:Below w w w')=>CR.o ((pos:Int)+12) 4 w' h);rw[←Li]at C4;have TW:IntKind.u32.wrap (x4:Int)=(x4:Int):=by have:=WV c ((pos:Int)+12);rw[Np];omega
   have hp4:IntKind.i64.wrap ((pos:Int)+12)=(pos:Int)+12:=Te _ Zo;have C5:=Zh (fun(w':World) (h:Below w w w')=>CR.o ((pos:Int)+16) 4 w' h);rw[←Io]at C5;have NI:IntKind.u32.wrap (x5:Int)=(x5:Int):=by have:=WV c ((pos:Int)+16);rw[Np];omega
   have hp5:IntKind.i64.wrap ((pos:Int)+16)=(pos:Int)+16:=Te _ Zo;have C6:=Zh (fun(w':World) (h:Below w w w')=>CR.o ((pos:Int)+20) 4 w' h);rw[←aN]at C6;have Cv:IntKind.u32.wrap (x6:Int)=(x6:Int):=by have:=WV c ((pos:Int)+20);rw[Np];omega
   have hp6:IntKind.i64.wrap ((pos:Int)+20)=(pos:Int)+20:=Te _ Zo;have dL:IntKind.i64.wrap ((pos:Int)+24)=(pos:Int)+24:=Te _ Zo;have Db:pos≤100000:=by omega
   have Ns:=Zh P4;clear P4 P7 SF NK SQ Li Io aN;go_upto_region 19 with fail
   have HG:=Zh (HG.o.below (YI _ _).drew);have HO:=Zh (Yv HO.o (YI _ _).drew);have k0:(wr.drew).cell? ⟨w.heap.size+1,6,none⟩=some (.slice a i q):=Zc HG.o.Y8 6 rfl;refine R5 ?_;refine Z_.Zj (d:=40) (S:=(fun w'=>w'.cell? ⟨w.heap.size+1,6,none⟩=some (.slice a i q))) X_ ?_ (fun _=>?_)
   ·exact k0
   refine YP 0 (h:=YP 2 (h:=YP 3 (h:=YP 6 (h:=YP 7 (h:=YP 8 (h:=YP 11 (h:=YP 12 (h:=YP 13 (h:=YP 16 (h:=YP 17 (h:=YP 18 (h:=YP 21 (h:=YP 22 (h:=YP 23 (h:=YP 26 (h:=YP 27 (h:=YP 28 (h:=YP 31 (h:=YP 32 (h:=YP 33 (h:=YK 1 (h:=?_))))))))))))))))))))));refine YR 4 (h:=fun K hK=>?_);go_simp;refine(C0.o _ HG.o.Zf).mono ?_;rintro e w' ⟨rfl,rfl⟩;go_wp2_with fail
   refine Z_.Y9 hK _ _ ?_ (fun _=>?_)
   ·first|exact k2|exact k1|exact k0
   clear hK K;try simp only[Z_.pt]
   refine YP 5 (h:=?_);refine YR 9 (h:=fun K hK=>?_);go_simp;refine(C1.o _ HG.o.Zf).mono ?_;rintro e w' ⟨rfl,rfl⟩;go_wp2_with fail
   refine Z_.Y9 hK _ _ ?_ (fun _=>?_)
   ·first|exact k2|exact k1|exact k0
   clear hK K;try simp only[Z_.pt]
   refine YP 10 (h:=?_);refine YR 14 (h:=fun K hK=>?_);go_simp;refine(C2.o _ HG.o.Zf).mono ?_;rintro e w' ⟨rfl,rfl⟩;go_wp2_with fail
   refine Z_.Y9 hK _ _ ?_ (fun _=>?_)
   ·first|exact k2|exact k1|exact k0
   clear hK K;try simp only[Z_.pt]
   refine YP 15 (h:=?_);refine YR 19 (h:=fun K hK=>?_);go_simp;refine(C3.o _ HG.o.Zf).mono ?_;rintro e w' ⟨rfl,rfl⟩;go_wp2_with fail
   refine Z_.Y9 hK _ _ ?_ (fun _=>?_)
   ·first|exact k2|exact k1|exact k0
   clear hK K;try simp only[Z_.pt]
   refine YP 20 (h:=?_);refine YR 24 (h:=fun K hK=>?_);go_simp;refine(C4.o _ HG.o.Zf).mono ?_;rintro e w' ⟨rfl,rfl⟩;go_wp2_with fail
   refine Z_.Y9 hK _ _ ?_ (fun _=>?_)
   ·first|exact k2|exact k1|exact k0
   clear hK K;try simp only[Z_.pt]
   refine YP 25 (h:=?_);refine YR 29 (h:=fun K hK=>?_);go_simp;refine(C5.o _ HG.o.Zf).mono ?_;rintro e w' ⟨rfl,rfl⟩;go_wp2_with fail
   refine Z_.Y9 hK _ _ ?_ (fun _=>?_)
   ·first|exact k2|exact k1|exact k0
   clear hK K;try simp only[Z_.pt]
   refine YP 30 (h:=?_);refine YR 34 (h:=fun K hK=>?_);go_simp;refine(C6.o _ HG.o.Zf).mono ?_;rintro e w' ⟨rfl,rfl⟩;go_wp2_with fail
   refine Z_.Y9 hK _ _ ?_ (fun _=>?_)
   ·first|exact k2|exact k1|exact k0
   clear hK K;try simp only[Z_.pt]
   refine YP 35 (h:=YP 36 (h:=?_));refine YR 37 (h:=fun K hK=>?_);refine Xe Zr Mt (.tmp 87) Zr (Qs (x0:Int) (x1:Int) (x2:Int) (x3:Int) (x4:Int) (x5:Int) (x6:Int)) Zr Zr Zd ?_;have HG:=Zh (HG.o.below (Z' wr.drew (.cells (Qs (x0:Int) (x1:Int) (x2:Int) (x3:Int) (x4:Int) (x5:Int) (x6:Int)) 228)));have HO:=Zh (Yv HO.o (Z' wr.drew (.cells (Qs (x0:Int) (x1:Int) (x2:Int) (x3:Int) (x4:Int) (x5:Int) (x6:Int)) 228)));have k1:=cell_of HG.o.Y8 6;simp only[SN,Sy,R4]at k1;refine Z_.Y9 hK _ _ ?_ (fun _=>?_)
   ·first|exact k2|exact k1|exact k0
   clear hK K;try simp only[Z_.pt]
   refine YR 38 (h:=fun K hK=>?_);refine Ze Zr (.tmp 52) (.tmp 88) 170 Zr w Mt (.slice a i q) i ((Vf c 24 i).flatMap W_) Zr HO.o _ 1 ([(⟨x0,x1,x2,x3,x4,x5,x6⟩:oD)].flatMap W_) Zr (VA wr.drew 228 1 ([(⟨x0,x1,x2,x3,x4,x5,x6⟩:oD)].flatMap W_) Zd) rfl (U6 fun x _=>AQ x) Zo Zo ?_ ?_
   ·exact HG.o.Zf.size
   intro v' w6 Hq xd;obtain⟨na,nq,Nr,-⟩:=Row.Z4 Hq.o;subst Nr;have HG:=Zh (HG.o.grown HO.o Zd xd.o);have HO:Hid (w6.ownsRow w 228 7 (.slice na (i+1) nq) (i+1) ((Vf c 24 i++[(⟨x0,x1,x2,x3,x4,x5,x6⟩:oD)]).flatMap W_)):=(by have h:=Hq.o;rw[←OD]at h;exact h);exact Yx50
  ·have uF:i=n:=by omega
   subst uF;have SR:=Zh (Row.Z4 HO.o);have TZ:=HG.o.z;have UH:=HG.o.Y8;go_wp2_with (first|(with_reducible refine Zl UH underlying173 ?_)|(with_reducible refine Zs (cells:=(Qe 200 (ss:Int) (nt:Int) (tm:Int) (pk:Int) (oc:Int) a i q none 0 0 0 none 0 0)) TZ ?_))
   refine VD (v:= .agg (Qe 200 (ss:Int) (nt:Int) (tm:Int) (pk:Int) (oc:Int) a i q none 0 0 0 none 0 0)) ?_ rfl ?_
   ·exact results_cell_row Zr _ _ w 173 (Qe 200 (ss:Int) (nt:Int) (tm:Int) (pk:Int) (oc:Int) a i q none 0 0 0 none 0 0) (0,0) _ Zr (setRow_heap _ _ _ _ _ _ TZ) underlying173 rfl X_
   refine⟨⟨_,rfl,?_⟩,Z0 HG.o.Zf (Zw _) _⟩;rw[HX.o];have hr:Ue wr ⟨⟨200,(ss:Int),(nt:Int),(tm:Int),(pk:Int),(oc:Int),Vf c 24 i,[],0,[]⟩,.slice a i q,.slice none 0 0,.slice none 0 0⟩:=⟨by show Row wr _ _ (Vf c 24 i).length _;rw[show(Vf c 24 i).length=i by unfold Vf;rw[Tx,List.length_range]];exact SR.o,Row.nil _ _,Row.nil _ _⟩;have Mz:=Ue.setRow hr TZ (Qe 200 (ss:Int) (nt:Int) (tm:Int) (pk:Int) (oc:Int) a i q none 0 0 0 none 0 0);exact⟨_,_,_,rfl,Mz.b,Mz.g,Mz.p⟩
end Go.Proofs.By
