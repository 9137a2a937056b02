/- Part of a proof. -/
import Derived.Test.YtpdjhlcbcomdkaaGreatDoorT00
set_option linter.unusedVariables false
set_option linter.unusedSimpArgs false
set_option maxRecDepth 100000
set_option maxHeartbeats 16000000
open Go Go.Q
namespace Go.Proofs.Z_
section
variable {P:Program} {ops:Array Oper} {Q:Exit→Act→World→Prop} {md:Region.Mode} {S:World→Prop} {d:Nat}
def till(P:Program)(md:Region.Mode)(ops:Array Oper)(Q:Exit→Act→World→Prop)(S:World→Prop)(d:Nat):Nat→Array Bool→Act→World→Prop
 | 0,done,a,w=>Region.ready md ops done=[]∧Q .normal a w
 | n+1,done,a,w=>(Region.ready md ops done=[]→Q .normal a w) ∧
  ∀i∈Region.ready md ops done,wpOp P ops Q i (fun a' w'=>((done.setIfInBounds i true).getD d true=false→S w')∧till P md ops Q S d n (done.setIfInBounds i true) a' w') a w
theorem zL:∀(n:Nat) (done:Array Bool) (a:Act) (w:World),till P md ops Q S d n done a w→wpAny P md ops Q n done a w
 | 0,_,_,_,h=>h
 | n+1,_,_,_,h=>⟨h.1,fun i hi=>wpOp_mono (fun a' w' k=>zL n _ a' w' k.2) (h.2 i hi)⟩
def IG(md:Region.Mode)(ops:Array Oper)(done:Array Bool):Prop:=∀k ok,ops[k]?=some ok→done.getD k false=true→∀e∈ok.after,Region.binds md e=true→done.getD e.on false=true
def closed(md:Region.Mode)(ops:Array Oper)(done:Array Bool):Bool:=(List.range ops.size).all fun k=> !(done.getD k false)||(match ops[k]? with
 | some o=>o.after.all fun e=> !(Region.binds md e)||done.getD e.on false
 | none=>true)
theorem xV{done:Array Bool}(h:closed md ops done=true):IG md ops done:=by
 intro k ok hk hdk e he hb;unfold closed at h;have h1:=List.all_eq_true.1 h k (by rw[List.mem_range];exact(Array.getElem?_eq_some_iff.1 hk).1);rw[hdk,hk]at h1;have h2:=Array.all_eq_true_iff_forall_mem.1 (show(ok.after.all fun e=> !(Region.binds md e)||done.getD e.on false)=true from h1) e he;rw[hb]at h2;simpa using h2
theorem IG.set{done:Array Bool}(h:IG md ops done){j:Nat}(hj:j∈Region.ready md ops done):IG md ops (done.setIfInBounds j true):=by
 intro k ok hk hdk e he hb;by_cases Ik:j=k
 ·subst Ik;obtain⟨_,o,ho,Uz⟩:=mem_ready.1 hj;rw[hk]at ho;injection ho with ho
  subst ho;exact getD_set_true (Uz e he hb)
 ·rw[getD_set_ne false Ik]at hdk;exact getD_set_true (h k ok hk hdk e he hb)
def waits(md:Region.Mode)(ops:Array Oper)(i:Nat):Nat→Nat→Bool
 | 0,_=>false
 | n+1,d=>match ops[d]? with
  | some o=>o.after.any fun e=>Region.binds md e&&(e.on==i||waits md ops i n e.on)
  | none=>false
theorem Gy{i:Nat}{done:Array Bool}(hc:IG md ops done):∀(n d:Nat) (od:Oper),waits md ops i n d=true→ops[d]?=some od→(∀e∈od.after,Region.binds md e=true→done.getD e.on false=true)→done.getD i false=true
 | 0,_,_,h,_,_=>by cases h
 | n+1,d,od,h,ho,hl=>by
  unfold waits at h;rw[ho]at h;obtain⟨e,he,hb⟩:=Array.any_eq_true'.1 h;have hb:=(UW _ _).mp hb;have h1:=hl e he hb.1;rcases (Bool.or_eq_true _ _).mp hb.2 with h2|h2
  ·rw[←show e.on=i by simpa using h2];exact h1
  ·cases hoe:ops[e.on]? with
   | none=>
    exfalso;cases n with
    | zero=>cases h2
    | succ n=>unfold waits at h2;rw[hoe]at h2;cases h2
   | some oe=>exact Gy hc n e.on oe h2 hoe (hc e.on oe hoe h1)
theorem vU{i:Nat}{oi:Oper}{v:Value}(hi:ops[i]?=some oi)(lY:∀(j:Nat) (o:Oper) cs b,ops[j]?=some o→o.op ≠ .select cs b)
  (hQ:∀c a w,Q (.panic c) (a.put oi.dst v) w→Q (.panic c) a w) (WN:i≠d) (hd:waits md ops i ops.size d=true) :
  ∀(n:Nat) (done:Array Bool) (a:Act) (w:World),
   (∀j oj,ops[j]?=some oj→j≠i→done.getD j true=false→(∀e∈oj.after,Region.binds md e=true→e.on≠i)→oi.apart ops oj=true) →
   i∈Region.ready md ops done→YieldsIf P ops S oi v a→IG md ops done→done.getD d true=false→S w →
   till P md ops Q S d n (done.setIfInBounds i true) (a.put oi.dst v) w→till P md ops Q S d (n+1) done a w:=by
 intro n
 induction n with
 | zero=>
  intro done a w _ hr hy _ _ hS H;refine⟨fun h=>(by rw[h]at hr;cases hr),fun j hj=>?_⟩;by_cases z_:j=i
  ·subst z_;exact hy.wpOp hi hS ⟨fun _=>hS,H⟩
  ·have:=ready_mono hj z_;rw[H.1]at this;cases this
 | succ n ih=>
  intro done a w yz hr hy hc hdn hS H;refine⟨fun h=>(by rw[h]at hr;cases hr),fun j hj=>?_⟩;by_cases z_:j=i
  ·subst z_;exact hy.wpOp hi hS ⟨fun _=>hS,H⟩
  ·have h1:=H.2 j (ready_mono hj z_);obtain⟨lJ,oj,lS,Uz⟩:=mem_ready.1 hj;have ml:done.getD i true=false:=(mem_ready.1 hr).1
   have aj:done.getD i false=true→False:=fun k=>by
    rcases Nat.lt_or_ge i done.size with h'|h'
    ·simp[h']at ml k;rw[ml]at k;cases k
    ·simp[D_ h']at k
   have qh:∀e∈oj.after,Region.binds md e=true→e.on≠i:=fun e he hb heq=>aj (by rw[←heq];exact Uz e he hb)
   have hjd:j≠d:=fun e=>by
    subst e;exact aj (Gy hc ops.size j oj hd lS Uz)
   have g1:(done.setIfInBounds j true).getD d true=false:=by rw[getD_set_ne true hjd];exact hdn
   have g2:((done.setIfInBounds i true).setIfInBounds j true).getD d true=false:=by rw[getD_set_ne true hjd,getD_set_ne true WN];exact hdn
   have h2:=wpOp_putIf lS (yz j oj lS z_ lJ qh) (fun cs b=>lY i oi cs b hi) (fun cs b=>lY j oj cs b lS) hQ hy h1
   have uB:∀k ok,ops[k]?=some ok→k≠i→(done.setIfInBounds j true).getD k true=false →
     (∀e∈ok.after,Region.binds md e=true→e.on≠i)→oi.apart ops ok=true:=fun k ok hk hki ml Ov=>by
    refine yz k ok hk hki ?_ Ov;by_cases Ik:j=k
    ·subst Ik;exact lJ
    ·rw[getD_set_ne true Ik]at ml;exact ml
   refine wpOp_mono (fun a' w' k=>⟨fun _=>k.2.1 g2,ih (done.setIfInBounds j true) a' w' uB (ready_mono hr (Ne.symm z_)) k.1 (hc.set hj) g1 (k.2.1 g2) ?_⟩) h2;rw[Array.setIfInBounds_comm _ _ z_];exact k.2.2
theorem MG{i:Nat}{oi:Oper}{v:Value}{n:Nat}{done:Array Bool}{a:Act}{w:World}(hi:ops[i]?=some oi)
  (hs:Region.noSelect ops=true) (hf:Region.free md ops done i=true) (hr:(Region.ready md ops done).contains i=true)
  (hd:((i !=d)&&waits md ops i ops.size d&&closed md ops done && !(done.getD d true))=true)
  (hQ:∀c a w,Q (.panic c) (a.put oi.dst v) w→Q (.panic c) a w) (hy:YieldsIf P ops S oi v a) (hS:S w)
  (h:till P md ops Q S d n (done.setIfInBounds i true) (a.put oi.dst v) w):till P md ops Q S d (n+1) done a w:=by
 simp only[UW]at hd;obtain⟨⟨⟨h1,h2⟩,h3⟩,h4⟩:=hd;exact vU hi (Region.noSelect_spec hs) hQ (by simpa using h1) h2 n done a w (Region.free_spec hi hf) (by simpa using hr) hy (xV h3) (by simpa using h4) hS h
theorem zM{i:Nat}{oi:Oper}{v:Value}(hi:ops[i]?=some oi)(lY:∀(j:Nat) (o:Oper) cs b,ops[j]?=some o→o.op ≠ .select cs b)
  (hQ:∀c a w,Q (.panic c) (a.put oi.dst v) w→Q (.panic c) a w) (WN:i≠d) :
  ∀(n:Nat) (done:Array Bool) (a:Act) (w:World),
   (∀j oj,ops[j]?=some oj→j≠i→done.getD j true=false→(∀e∈oj.after,Region.binds md e=true→e.on≠i)→oi.apart ops oj=true) →
   i∈Region.ready md ops done→YieldsIf P ops (fun _=>True) oi v a→(done.getD d true=false→S w) →
   till P md ops Q S d n (done.setIfInBounds i true) (a.put oi.dst v) w→till P md ops Q S d (n+1) done a w:=by
 intro n
 induction n with
 | zero=>
  intro done a w _ hr hy hS H;refine⟨fun h=>(by rw[h]at hr;cases hr),fun j hj=>?_⟩;by_cases z_:j=i
  ·subst z_;exact hy.wpOp hi trivial ⟨fun h=>hS (by rw[getD_set_ne true WN]at h;exact h),H⟩
  ·have:=ready_mono hj z_;rw[H.1]at this;cases this
 | succ n ih=>
  intro done a w yz hr hy hS H;refine⟨fun h=>(by rw[h]at hr;cases hr),fun j hj=>?_⟩;by_cases z_:j=i
  ·subst z_;exact hy.wpOp hi trivial ⟨fun h=>hS (by rw[getD_set_ne true WN]at h;exact h),H⟩
  ·have h1:=H.2 j (ready_mono hj z_);obtain⟨lJ,oj,lS,Uz⟩:=mem_ready.1 hj;have ml:done.getD i true=false:=(mem_ready.1 hr).1
   have aj:done.getD i false=true→False:=fun k=>by
    rcases Nat.lt_or_ge i done.size with h'|h'
    ·simp[h']at ml k;rw[ml]at k;cases k
    ·simp[D_ h']at k
   have qh:∀e∈oj.after,Region.binds md e=true→e.on≠i:=fun e he hb heq=>aj (by rw[←heq];exact Uz e he hb)
   have h2:=wpOp_putIf lS (yz j oj lS z_ lJ qh) (fun cs b=>lY i oi cs b hi) (fun cs b=>lY j oj cs b lS) hQ hy h1
   have uB:∀k ok,ops[k]?=some ok→k≠i→(done.setIfInBounds j true).getD k true=false →
     (∀e∈ok.after,Region.binds md e=true→e.on≠i)→oi.apart ops ok=true:=fun k ok hk hki ml Ov=>by
    refine yz k ok hk hki ?_ Ov;by_cases Ik:j=k
    ·subst Ik;exact lJ
    ·rw[getD_set_ne true Ik]at ml;exact ml
   have hg:(done.setIfInBounds j true).getD d true=false→((done.setIfInBounds i true).setIfInBounds j true).getD d true=false:=fun h=>by
    rw[Array.setIfInBounds_comm _ _ (Ne.symm z_),getD_set_ne true WN];exact h
   refine wpOp_mono (fun a' w' k=>⟨fun h=>k.2.1 (hg h),ih (done.setIfInBounds j true) a' w' uB (ready_mono hr (Ne.symm z_)) k.1 (fun h=>k.2.1 (hg h)) ?_⟩) h2;rw[Array.setIfInBounds_comm _ _ z_];exact k.2.2
theorem Gv{i:Nat}{oi:Oper}{v:Value}{n:Nat}{done:Array Bool}{a:Act}{w:World}(hi:ops[i]?=some oi)
  (hs:Region.noSelect ops=true) (hf:Region.free md ops done i=true) (hr:(Region.ready md ops done).contains i=true) (hd:(i !=d)=true)
  (hQ:∀c a w,Q (.panic c) (a.put oi.dst v) w→Q (.panic c) a w) (hy:YieldsIf P ops (fun _=>True) oi v a) (hS:done.getD d true=false→S w)
  (h:till P md ops Q S d n (done.setIfInBounds i true) (a.put oi.dst v) w):till P md ops Q S d (n+1) done a w:=
 zM hi (Region.noSelect_spec hs) hQ (by simpa using hd) n done a w (Region.free_spec hi hf) (by simpa using hr) hy hS h
theorem pt:(∀(xs:List Value) (i:Nat) (h:i<xs.toArray.size),xs.toArray[i]=xs[i]'(by simpa using h))∧(∀(xs:List Oper) (i:Nat) (h:i<xs.toArray.size),xs.toArray[i]=xs[i]'(by simpa using h)) ∧
  (∀(x:Value) (xs:List Value) (i:Nat) (h:i+1<(x :: xs).length),(x :: xs)[i+1]=xs[i]'(by simpa using h))∧(∀(x:Oper) (xs:List Oper) (i:Nat) (h:i+1<(x :: xs).length),(x :: xs)[i+1]=xs[i]'(by simpa using h)) ∧
  (∀(x:Value) (xs:List Value) (h:0<(x :: xs).length),(x :: xs)[0]=x)∧(∀(x:Oper) (xs:List Oper) (h:0<(x :: xs).length),(x :: xs)[0]=x) ∧
  (∀(a:Act) (d:Nat) (v:Value),a.put (some d) v={a with tmps:=a.tmps.setIfInBounds d v})∧(∀(a:Act) (v:Value),a.put none v=a) ∧
  (∀(xs:List Value) (i:Nat) (v:Value),xs.toArray.setIfInBounds i v=(xs.set i v).toArray)∧(∀(xs:List Bool) (i:Nat) (v:Bool),xs.toArray.setIfInBounds i v=(xs.set i v).toArray) ∧
  (∀(x:Value) (xs:List Value) (v:Value),(x :: xs).set 0 v=v :: xs)∧(∀(x:Value) (xs:List Value) (i:Nat) (v:Value),(x :: xs).set (i+1) v=x :: xs.set i v) ∧
  (∀(x:Bool) (xs:List Bool) (v:Bool),(x :: xs).set 0 v=v :: xs)∧(∀(x:Bool) (xs:List Bool) (i:Nat) (v:Bool),(x :: xs).set (i+1) v=x :: xs.set i v):=
 ⟨fun _ _ _=>rfl,fun _ _ _=>rfl,fun _ _ _ _=>rfl,fun _ _ _ _=>rfl,fun _ _ _=>rfl,fun _ _ _=>rfl,fun _ _ _=>rfl,fun _ _=>rfl,fun _ _ _=>List.setIfInBounds_toArray ..,fun _ _ _=>List.setIfInBounds_toArray ..,fun _ _ _=>rfl,fun _ _ _ _=>rfl,fun _ _ _=>rfl,fun _ _ _ _=>rfl⟩
theorem tk(i:Nat)(v:Value){oi:Oper}{n:Nat}{done:Array Bool}{a:Act}{w:World}(hi:ops[i]?=some oi)(hy:∀w,S w→(execOp a.eval oi).run P w = .ok (.value v) w)
  (h:till P md ops Q S d n (done.setIfInBounds i true) (a.put oi.dst v) w)
  (hc:(Region.noSelect ops&&Region.free md ops done i&&(Region.ready md ops done).contains i&&((i !=d)&&waits md ops i ops.size d&&closed md ops done && !(done.getD d true)))=true:=by kernel_rfl)
  (hw:Region.wanted oi (yielded ops a.tmps)=true:=by rfl) (hQ:∀c a w,Q (.panic c) (a.put oi.dst v) w→Q (.panic c) a w:=by exact fun _ _ _ h=>h) (hS:S w:=by assumption):till P md ops Q S d (n+1) done a w:=by
 simp only[UW]at hc;obtain⟨⟨⟨h1,h2⟩,h3⟩,h4⟩:=hc;exact MG hi h1 h2 h3 (by simpa only[UW]using h4) hQ (WO ⟨hw,hy⟩) hS h
theorem tp(i:Nat)(v:Value){oi:Oper}{n:Nat}{done:Array Bool}{a:Act}{w:World}(hi:ops[i]?=some oi)(hy:∀w,True→(execOp a.eval oi).run P w = .ok (.value v) w)
  (h:till P md ops Q S d n (done.setIfInBounds i true) (a.put oi.dst v) w)
  (hc:(Region.noSelect ops&&Region.free md ops done i&&(Region.ready md ops done).contains i&&(i !=d))=true:=by kernel_rfl)
  (hw:Region.wanted oi (yielded ops a.tmps)=true:=by rfl) (hQ:∀c a w,Q (.panic c) (a.put oi.dst v) w→Q (.panic c) a w:=by exact fun _ _ _ h=>h) (hS:done.getD d true=false→S w:=by exact fun h=>by first|assumption|exact absurd h Zd):till P md ops Q S d (n+1) done a w:=by
 simp only[UW]at hc;obtain⟨⟨⟨h1,h2⟩,h3⟩,h4⟩:=hc;exact Gv hi h1 h2 h3 h4 hQ (WO ⟨hw,hy⟩) hS h
theorem ts(i:Nat){oi:Oper}{n:Nat}{done:Array Bool}{a:Act}{w:World}(hi:ops[i]?=some oi)
  (h:till P md ops Q S d n (done.setIfInBounds i true) (a.put oi.dst undef) w)
  (hc:(Region.noSelect ops&&Region.free md ops done i&&(Region.ready md ops done).contains i&&(i !=d))=true:=by kernel_rfl)
  (hw:Region.wanted oi (yielded ops a.tmps)=false:=by rfl) (hQ:∀c a w,Q (.panic c) (a.put oi.dst undef) w→Q (.panic c) a w:=by exact fun _ _ _ h=>h) (hS:done.getD d true=false→S w:=by exact fun h=>by first|assumption|exact absurd h Zd):till P md ops Q S d (n+1) done a w:=by
 simp only[UW]at hc;obtain⟨⟨⟨h1,h2⟩,h3⟩,h4⟩:=hc;exact Gv hi h1 h2 h3 h4 hQ (WB ⟨hw,rfl⟩) hS h
theorem hk(i:Nat)(v:Value){oi:Oper}{n:Nat}{done:Array Bool}{a:Act}{w:World}(hi:ops[i]?=some oi)(hy:∀w,S w→(execOp a.eval oi).run P w = .ok (.value v) w)
  (h:wpAnyH P md ops Q S n (done.setIfInBounds i true) (a.put oi.dst v) w)
  (hc:(Region.noSelect ops&&Region.free md ops done i&&(Region.ready md ops done).contains i)=true:=by kernel_rfl)
  (hw:Region.wanted oi (yielded ops a.tmps)=true:=by rfl) (hQ:∀c a w,Q (.panic c) (a.put oi.dst v) w→Q (.panic c) a w:=by exact fun _ _ _ h=>h) (hS:S w:=by assumption):wpAnyH P md ops Q S (n+1) done a w:=by
 simp only[UW]at hc;obtain⟨⟨h1,h2⟩,h3⟩:=hc;exact wpAnyH_take hi h1 h2 h3 hQ (WO ⟨hw,hy⟩) hS h
theorem Yx{done:Array Bool}{a:Act}{w:World}(hr:Region.ready md ops done=[])(h:Q .normal a w):∀n,till P md ops Q S d n done a w
 | 0=>⟨hr,h⟩
 | _+1=>⟨fun _=>h,by rw[hr];simp⟩
def each(P:Program)(md:Region.Mode)(ops:Array Oper)(Q:Exit→Act→World→Prop)(S:World→Prop)(d n:Nat)(done:Array Bool)(a:Act)(w:World)(rs:List Nat):Prop:=
 ∀i∈rs,wpOp P ops Q i (fun a' w'=>((done.setIfInBounds i true).getD d true=false→S w')∧till P md ops Q S d n (done.setIfInBounds i true) a' w') a w
theorem QB{n:Nat}{done:Array Bool}{a:Act}{w:World}:each P md ops Q S d n done a w []:=fun _ h=>by cases h
theorem Wa{n:Nat}{done:Array Bool}{a:Act}{w:World}{i:Nat}{o:Oper}{rs:List Nat}(ho:ops[i]?=some o)
  (h:∀K':Act→World→Prop,Shut (∀a w,((done.setIfInBounds i true).getD d true=false→S w)→till P md ops Q S d n (done.setIfInBounds i true) a w→K' a w)→if Region.wanted o (yielded ops a.tmps)=true then Oper.wp P o a w K' Q else K' (a.put o.dst undef) w)
  (hs:each P md ops Q S d n done a w rs):each P md ops Q S d n done a w (i :: rs):=fun j hj=>by
 rcases J9.1 hj with rfl|hj
 ·exact wpOp_step ho (fun K' hK=>h K' (fun a w hS hW=>hK a w ⟨hS,hW⟩))
 ·exact hs j hj
theorem TF{rs:List Nat}{n:Nat}{done:Array Bool}{a:Act}{w:World}(hr:Region.ready md ops done=rs)(WN:rs≠[])
  (h:each P md ops Q S d n done a w rs):till P md ops Q S d (n+1) done a w:=⟨fun h0=>absurd (hr▸h0) WN,hr▸h⟩
theorem zn{id:Nat}{a:Act}{w:World}(hm:P.follows .mixedOrders=true)
  (h:till P .any ops Q S d ops.size (Array.replicate ops.size false) a w.drew):(Code.region id ops true).wp P Q a w:=
 wp_region_any hm (zL _ _ _ _ h)
theorem Zj{id:Nat}{a:Act}{w:World}(hm:P.follows .mixedOrders=true)(hS:S w.drew)
  (h:S w.drew→till P .any ops Q S d ops.size (Array.replicate ops.size false) a w.drew):(Code.region id ops true).wp P Q a w:=zn hm (h hS)
theorem Y9{n:Nat}{done:Array Bool}{i:Nat}{K':Act→World→Prop}(hK:Shut (∀a w,((done.setIfInBounds i true).getD d true=false→S w)→till P md ops Q S d n (done.setIfInBounds i true) a w→K' a w))(a:Act)(w:World)(hS:S w)(h:S w→till P md ops Q S d n (done.setIfInBounds i true) a w):K' a w:=hK a w (fun _=>hS) (h hS)
theorem Yf{n:Nat}{done:Array Bool}{i:Nat}{K':Act→World→Prop}(hK:Shut (∀a w,((done.setIfInBounds i true).getD d true=false→S w)→till P md ops Q S d n (done.setIfInBounds i true) a w→K' a w))(a:Act)(w:World)(hdn:(done.setIfInBounds i true).getD d true=true)(h:till P md ops Q S d n (done.setIfInBounds i true) a w):K' a w:=hK a w (fun k=>(by rw[hdn]at k;cases k)) h
end
open Go Go.RowKit
section
variable {P:Program} {md:Region.Mode} {ops:Array Oper} {Q:Exit→Act→World→Prop} {S:World→Prop} {d:Nat}
def along(md:Region.Mode)(ops:Array Oper)(i:Nat):Nat→List Nat→Bool
 | d,[]=>match ops[d]? with
  | some o=>o.after.any fun e=>Region.binds md e&&e.on==i
  | none=>false
 | d,b :: l=>(match ops[d]? with
  | some o=>o.after.any fun e=>Region.binds md e&&e.on==b
  | none=>false)&&along md ops i b l
theorem H8{i:Nat}:∀(l:List Nat) (d n:Nat),l.length<n→along md ops i d l=true→waits md ops i n d=true
 | [],d,n+1,_,h=>by
  unfold along at h;unfold waits;cases ho:ops[d]? with
  | none=>rw[ho]at h;cases h
  | some o=>
   rw[ho]at h;obtain⟨e,he,hb⟩:=Array.any_eq_true'.1 h;have hb:=(UW _ _).mp hb;exact Array.any_eq_true'.2 ⟨e,he,by rw[hb.1,hb.2];rfl⟩
 | b :: l,d,n+1,hn,h=>by
  unfold along at h;have h:=(UW _ _).mp h;have ih:=H8 l b n (by rw[List.length_cons]at hn;omega) h.2;unfold waits;cases ho:ops[d]? with
  | none=>rw[ho]at h;cases h.1
  | some o=>
   rw[ho]at h;obtain⟨e,he,hb⟩:=Array.any_eq_true'.1 h.1;have hb:=(UW _ _).mp hb;have heb:e.on=b:=by simpa using hb.2
   exact Array.any_eq_true'.2 ⟨e,he,by rw[hb.1,heb,ih,Bool.or_true];rfl⟩
theorem bo(i:Nat)(l:List Nat)(v:Value){oi:Oper}{n:Nat}{done:Array Bool}{a:Act}{w:World}(hi:ops[i]?=some oi)(hy:∀w,S w→(execOp a.eval oi).run P w = .ok (.value v) w)
  (h:till P md ops Q S d n (done.setIfInBounds i true) (a.put oi.dst v) w)
  (hc:(Region.noSelect ops&&Region.free md ops done i&&(Region.ready md ops done).contains i&&((i !=d)&&along md ops i d l&&decide (l.length<ops.size)&&closed md ops done && !(done.getD d true)))=true:=by kernel_rfl)
  (hw:Region.wanted oi (yielded ops a.tmps)=true:=by rfl) (hQ:∀c a w,Q (.panic c) (a.put oi.dst v) w→Q (.panic c) a w:=by exact fun _ _ _ h=>h) (hS:S w:=by assumption):till P md ops Q S d (n+1) done a w:=by
 simp only[UW]at hc;obtain⟨⟨⟨h1,h2⟩,h3⟩,⟨⟨⟨h4,h5⟩,h6⟩,h7⟩,h8⟩:=hc;refine MG hi h1 h2 h3 ?_ hQ (WO ⟨hw,hy⟩) hS h;simp only[UW];exact⟨⟨⟨h4,H8 l d ops.size (of_decide_eq_true h6) h5⟩,h7⟩,h8⟩
end
end Go.Proofs.Z_
namespace Go.Proofs
open Go Go.RowKit Go.Proofs.Z_
section
variable {P:Program} {ops:Array Oper} {Q:Exit→Act→World→Prop} {md:Region.Mode} {S:World→Prop} {d:Nat} {oi:Oper} {v:Value} {n:Nat} {done:Array Bool} {x x':Act} {w:World}
theorem YA(i:Nat)(hi:ops[i]?=some oi:=by rfl)(hc:(Region.noSelect ops&&Region.free md ops done i&&(Region.ready md ops done).contains i)=true:=by kernel_rfl)(hy:∀w,S w→(execOp x.eval oi).run P w = .ok (.value v) w:=by intro wS Ub;(try dsimp only at Ub);(try simp only[Z_.pt]);go_simp;try with_reducible rfl)(ha:x.put oi.dst v=x':=by(try simp only[Z_.pt]);with_reducible rfl)(hw:Region.wanted oi (yielded ops x.tmps)=true:=by rfl)(hQ:∀c a w,Q (.panic c) (a.put oi.dst v) w→Q (.panic c) a w:=by exact fun _ _ _ h=>h)(hS:S w:=by assumption)
  (h:wpAnyH P md ops Q S n (done.setIfInBounds i true) x' w):wpAnyH P md ops Q S (n+1) done x w:=by
 subst ha;exact hk i v hi hy h hc hw (fun c a w k=>hQ c a w k) hS
theorem YK(i:Nat)(hi:ops[i]?=some oi:=by rfl)(hc:(Region.noSelect ops&&Region.free md ops done i&&(Region.ready md ops done).contains i&&((i !=d)&&waits md ops i ops.size d&&closed md ops done && !(done.getD d true)))=true:=by kernel_rfl)(hy:∀w,S w→(execOp x.eval oi).run P w = .ok (.value v) w:=by intro wS Ub;(try dsimp only at Ub);(try simp only[Z_.pt]);go_simp;try with_reducible rfl)(ha:x.put oi.dst v=x':=by(try simp only[Z_.pt]);with_reducible rfl)(hw:Region.wanted oi (yielded ops x.tmps)=true:=by rfl)(hQ:∀c a w,Q (.panic c) (a.put oi.dst v) w→Q (.panic c) a w:=by exact fun _ _ _ h=>h)(hS:S w:=by assumption)
  (h:till P md ops Q S d n (done.setIfInBounds i true) x' w):till P md ops Q S d (n+1) done x w:=by
 subst ha;exact tk i v hi hy h hc hw hQ hS
theorem YQ(i:Nat)(l:List Nat)(hi:ops[i]?=some oi:=by rfl)(hc:(Region.noSelect ops&&Region.free md ops done i&&(Region.ready md ops done).contains i&&((i !=d)&&along md ops i d l&&decide (l.length<ops.size)&&closed md ops done && !(done.getD d true)))=true:=by kernel_rfl)(hy:∀w,S w→(execOp x.eval oi).run P w = .ok (.value v) w:=by intro wS Ub;(try dsimp only at Ub);(try simp only[Z_.pt]);go_simp;try with_reducible rfl)(ha:x.put oi.dst v=x':=by(try simp only[Z_.pt]);with_reducible rfl)(hw:Region.wanted oi (yielded ops x.tmps)=true:=by rfl)(hQ:∀c a w,Q (.panic c) (a.put oi.dst v) w→Q (.panic c) a w:=by exact fun _ _ _ h=>h)(hS:S w:=by assumption)
  (h:till P md ops Q S d n (done.setIfInBounds i true) x' w):till P md ops Q S d (n+1) done x w:=by
 subst ha;exact bo i l v hi hy h hc hw hQ hS
theorem YP(i:Nat)(hi:ops[i]?=some oi:=by rfl)(hc:(Region.noSelect ops&&Region.free md ops done i&&(Region.ready md ops done).contains i&&(i !=d))=true:=by kernel_rfl)(hy:∀w,True→(execOp x.eval oi).run P w = .ok (.value v) w:=by intro wS Ub;(try dsimp only at Ub);(try simp only[Z_.pt]);go_simp;try with_reducible rfl)(ha:x.put oi.dst v=x':=by(try simp only[Z_.pt]);with_reducible rfl)(hw:Region.wanted oi (yielded ops x.tmps)=true:=by rfl)(hQ:∀c a w,Q (.panic c) (a.put oi.dst v) w→Q (.panic c) a w:=by exact fun _ _ _ h=>h)(hS:done.getD d true=false→S w:=by exact fun h=>by first|assumption|exact absurd h Zd)
  (h:till P md ops Q S d n (done.setIfInBounds i true) x' w):till P md ops Q S d (n+1) done x w:=by
 subst ha;exact tp i v hi hy h hc hw hQ hS
theorem YT(i:Nat)(hi:ops[i]?=some oi:=by rfl)(hc:(Region.noSelect ops&&Region.free md ops done i&&(Region.ready md ops done).contains i&&(i !=d))=true:=by kernel_rfl)(ha:x.put oi.dst undef=x':=by(try simp only[Z_.pt]);with_reducible rfl)(hw:Region.wanted oi (yielded ops x.tmps)=false:=by rfl)(hQ:∀c a w,Q (.panic c) (a.put oi.dst undef) w→Q (.panic c) a w:=by exact fun _ _ _ h=>h)(hS:done.getD d true=false→S w:=by exact fun h=>by first|assumption|exact absurd h Zd)
  (h:till P md ops Q S d n (done.setIfInBounds i true) x' w):till P md ops Q S d (n+1) done x w:=by
 subst ha;exact ts i hi h hc hw hQ hS
theorem YR(i:Nat)(hi:ops[i]?=some oi:=by rfl)(hr:Region.ready md ops done=[i]:=by kernel_rfl)
  (h:∀K':Act→World→Prop,Shut (∀a w,((done.setIfInBounds i true).getD d true=false→S w)→till P md ops Q S d n (done.setIfInBounds i true) a w→K' a w)→if Region.wanted oi (yielded ops x.tmps)=true then Oper.wp P oi x w K' Q else K' (x.put oi.dst undef) w):till P md ops Q S d (n+1) done x w:=TF hr Zi (Wa hi h QB)
theorem R3(i:Nat)(hi:ops[i]?=some oi:=by rfl)(hr:Region.ready md ops done=[i]:=by kernel_rfl)
  (h:∀K':Act→World→Prop,Shut (∀a w,S w→(S w→wpAnyH P md ops Q S n (done.setIfInBounds i true) a w)→K' a w)→if Region.wanted oi (yielded ops x.tmps)=true then Oper.wp P oi x w K' Q else K' (x.put oi.dst undef) w):wpAnyH P md ops Q S (n+1) done x w:=wpAnyH_ready hr Zi (AllReadyH.cons hi h AllReadyH.nil)
theorem YC{i:Nat}{rs:List Nat}(hi:ops[i]?=some oi:=by rfl)(h:∀K':Act→World→Prop,Shut (∀a w,((done.setIfInBounds i true).getD d true=false→S w)→till P md ops Q S d n (done.setIfInBounds i true) a w→K' a w)→if Region.wanted oi (yielded ops x.tmps)=true then Oper.wp P oi x w K' Q else K' (x.put oi.dst undef) w)(hs:each P md ops Q S d n done x w rs):each P md ops Q S d n done x w (i :: rs):=Wa hi h hs
theorem YHE(hr:Region.ready md ops done=[]:=by kernel_rfl)(h:Q .normal x w):wpAnyH P md ops Q S n done x w:=wpAnyH_done hr h n
end
theorem V8{p:Prop}(h:p:=by first|with_reducible assumption|exact Below.drew (by with_reducible assumption)|exact Heap.Below.alloc' (by with_reducible assumption) (Zw _) _|exact Heap.Below.alloc' (Below.drew (by with_reducible assumption)) (Zw _) _|exact Below.drew (Heap.Below.alloc' (by with_reducible assumption) (Zw _) _)):p:=h
theorem X_{p:Prop}(h:p:=by kernel_rfl):p:=h
theorem WQ{p:Prop}(h:p:=by with_reducible assumption):p:=h
theorem B6{p:Prop}(h:p:=by first|with_reducible assumption|exact Below.drew WQ):p:=h
theorem tY{p:Prop}(h:p:=by repeat(first|exact YI _ _|refine Below.drew ?_|refine Below.alloc ?_ Zi _)):p:=h
theorem T_{p:Prop}(h:p:=by dsimp only;omega):p:=h
theorem Nu{p:Prop}(h:p:=by intro u hu;rw[J7]at hu;subst hu;rfl):p:=h
theorem AB{p:Prop}(h:p:=by show _<(w.heap.push _).size;rw[Ou];exact Nat.lt_succ_self _):p:=h
theorem Yo12{p:Prop}(h:p:=by rcases EN.1 hx with h|h;exact(HC.o.each x h).wJ (XS Aj.o) (Y7 HC.o.KG Zd) (Y7 HC.o.KG Zd);rw[J7]at h;subst h;exact HR.o.pk.wJ (XS Aj.o) (Y7 HC.o.KG Zd) (Y7 HC.o.KG Zd)):p:=h
theorem xL{p:Prop}(h:p:=by first|with_reducible exact Ah.o|with_reducible exact(YI _ _).drew):p:=h
theorem Yo14{p:Prop}(h:p:=by rw[show(T.ZY++[(⟨p,n,la,false⟩:Vn)]).flatMap Zq=T.ZY.flatMap Zq++[.int .i64 p,.int .i64 n,.int .i64 la,.bool false] by rw[OD];rfl,show(T.ZY++[(⟨p,n,la,false⟩:Vn)]).length=T.ZY.length+1 by simp];exact ZW):p:=h
theorem Uf{p:Prop}(h:p:=by simp;omega):p:=h
theorem Yo17{p:Prop}(h:p:=by rw[show(T.Zz++[(⟨p,nm⟩:Vd)]).flatMap Yy=T.Zz.flatMap Yy++[.int .i64 p,.string (str nm)] by rw[OD];rfl,show(T.Zz++[(⟨p,nm⟩:Vd)]).length=T.Zz.length+1 by simp];exact ZW):p:=h
theorem j4{p:Prop}(h:p:=by have h:=(List.getElem?_eq_some_iff.1 hm).1;simpa using h):p:=h
theorem fk{p:Prop}(h:p:=by have hi:i=w.heap.size:=hi;subst hi;exact⟨_,_,_,HC.o.Y8,WO rfl⟩):p:=h
theorem xM{p:Prop}(h:p:=by first|assumption|exact Below.drew (by assumption)):p:=h
theorem j5{p:Prop}(h:p:=by show w.heap.size≤(w.heap.push _).size;rw[Ou];exact J_ _):p:=h
theorem j6{p:Prop}(h:p:=by repeat(first|exact JZ.o|refine ZR.drew ?_|refine ZR.alloc ?_ _)):p:=h
theorem j_{p:Prop}(h:p:=by rw[SY];omega):p:=h
theorem pC{p:Prop}(h:p:=by rw[xR,UG];exact oN.o):p:=h
theorem SU{p:Prop}(h:p:=by assumption):p:=h
theorem pD{p:Prop}(h:p:=by rw[FJ,UG];exact oM.o):p:=h
theorem pE{p:Prop}(h:p:=by rw[FJ,UG];exact oL.o):p:=h
theorem fo{p:Prop}(h:p:=by intro j hj;rw[SJ];rcases c5 j hj with rfl|rfl|rfl|rfl|rfl <;> rfl):p:=h
theorem kf{p:Prop}(h:p:=by have h:=oQ;rw[PW,Hz]at h;exact h):p:=h
theorem fq{p:Prop}(h:p:=by rw[XN f k hk,SY,Nat.min_eq_left h];exact Zw _):p:=h
theorem Yo31{p:Prop}(h:p:=by first|with_reducible exact HB8.o|with_reducible exact Ah.o|with_reducible exact(YI _ _).drew):p:=h
theorem AE{p:Prop}(h:p:=by first|rfl|trivial):p:=h
theorem ft{p:Prop}(h:p:=by have h:=HO.o;rw[UG,OD];exact h):p:=h
end Go.Proofs
namespace Go.Proofs
open Go
abbrev Yz1:List Value:=(Qe 0 0 0 0 0 0 none 0 0 none 0 0 0 none 0 0)
abbrev Ya:Array Value:=(Qe 0 0 0 0 0 0 none 0 0 none 0 0 0 none 0 0)
abbrev Xf:Array Value:=(Qm 0 0 0 0 false 0 0 0 0 none 0 0 false 0 none 0 0 none 0 0 0 0 false false 0 none 0 0 none 0 0 0)
abbrev Yz3:List Value:=(Qc false 0 0 0 0 none 0 0 false 0 none 0 0 none 0 0 0)
abbrev U2:Array Value:=(Qc false 0 0 0 0 none 0 0 false 0 none 0 0 none 0 0 0)
abbrev TL:Array Value:=(Qg false 0 0 0 0 none 0 0 false 0 none 0 0 none 0 0 0 0 false false 0)
abbrev IV:Array Value:=(Qa 0 0 0 0 ⟨#[]⟩ none 0 0 none 0 0)
abbrev Yz6:List Value:=(Qe 206 0 0 0 0 0 none 0 0 none 0 0 0 none 0 0)
abbrev Yz6a:Array Value:=(Qe 206 0 0 0 0 0 none 0 0 none 0 0 0 none 0 0)
abbrev Yz7:List Value:=(Qe 203 0 0 0 0 0 none 0 0 none 0 0 0 none 0 0)
abbrev Yz7a:Array Value:=(Qe 203 0 0 0 0 0 none 0 0 none 0 0 0 none 0 0)
abbrev Yz8:List Value:=(Qe 205 0 0 0 0 0 none 0 0 none 0 0 0 none 0 0)
abbrev Yz8a:Array Value:=(Qe 205 0 0 0 0 0 none 0 0 none 0 0 0 none 0 0)
abbrev Yz9:List Value:=(Qe 201 0 0 0 0 0 none 0 0 none 0 0 0 none 0 0)
abbrev Yz9a:Array Value:=(Qe 201 0 0 0 0 0 none 0 0 none 0 0 0 none 0 0)
abbrev Yz10:List Value:=(Qe 200 0 0 0 0 0 none 0 0 none 0 0 0 none 0 0)
abbrev cK:Array Value:=(Qe 200 0 0 0 0 0 none 0 0 none 0 0 0 none 0 0)
end Go.Proofs
