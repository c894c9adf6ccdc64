import Derived.Test.YtlcebdaghmdkeabGreatDoorM9
import Derived.Test.YtlcebdaghmdkeabGreatDoorM10
import Derived.Test.YtlcebdaghmdkeabGreatDoorM13
set_option linter.all false
set_option maxRecDepth 100000
set_option maxHeartbeats 64000000
namespace Go.Proofs.YtlcebdaghmdkeabGreatDoor
open Go.Proofs.Tryz
open Go.RowKit
attribute [local go_sem↓] Go.wp_at_zero Go.wp_at_succ
theorem Vo (y:V) (kb:aq) (kd:Nat) (lb:aq) (ld:Nat) (bx:Nat) (x:V) (ka:aq) (kc:Nat) (la:aq) (lc:Nat) (name:ah) (S:aw) (w:World) (fB:Hid (∀b,S b->b<w.heap.size)) (dH:aC w bx y kb kd lb ld) (hjn:y.In w S kb kd lb ld)
 (cK:x.sound) (hsz:x.size<=1073741824) (hn:name.size<=8000) (hin:x.In w S ka kc la lc) (h5:x.k=5):
 Calls prog 215 #[x.val ka kc la lc, .string name, .pointer (some ⟨bx,0,none⟩)] w (eO S (x.put name y) (.int .i64 0) w):=by
 have MR:=dH.lt;have mU:(x.k==5)=true:=by simpa using h5
 have Hr:=ae cK.flat.eG;have aH:=ae hin;have aT:=ae hjn;clear hin hjn h5;go_enter func215,ntmps215;go_upto_region 3 with fail
 refine aI (R:=fun wx=>aC wx w.heap.size x ka kc la lc/\aN wx (w.heap.size+1)/\Ext w wx) ⟨aj,aj,Xt⟩ ?_;rintro wa ⟨ag,ai,aD⟩;have dP:=af.ext aD dH;obtain⟨hc0,ax,hl0⟩:=ag.see;obtain⟨su,iW,pH⟩:=dP.see;go_wp2_with fail;(refine(tM x ka kc la lc name y kb kd lb ld S _ hsz Hr.out (aH.out.ext Xt) (aT.out.ext Xt)).mono ?_);rintro e w1 ⟨iH,iI,iJ,iK,rfl,fc,h1⟩;have ay:=ai.lt;have bR:(x.put name y).In w1 (fun b=>S b\/w.heap.size+2<=b) iH iI iJ iK:=fc.mono (fun b h _=>by rcases h with h|h;exact .inl h;exact .inr (by(try simp at h);omega));have ai:=af.ext (w:=wa) (w':=w1) Xt ai;have hx1:Ext w w1:=Xt;have cn:=ae bR;clear h1 aD hc0 ax hl0 fc bR;obtain⟨hc1,aA,ay⟩:=ai.see;go_wp2_with fail;refine aF (h:= ?_);exact⟨iH,iI,iJ,iK,rfl,cn.out.keep (Held.kept (Held.mono (S:=fun b=>b≠w.heap.size+1) (a:=w1) aB (fun b h=>by rcases h with h|h;(have:=fB.out b h;simp;omega);(simp;omega)))) (fun b h _=>by rcases h with h|h;exact .inl h;exact .inr (by omega)),Xt⟩
theorem GV (bx:Nat) (x:V) (ka:aq) (kc:Nat) (la:aq) (lc:Nat) (name:ah) (S:aw) (w:World) (hl:cS w) (hsz:x.size<=1073741824) (hn:name.size<=8000) (hin:x.In w S ka kc la lc) (h5:x.k≠5)
 (hno:x.k≠4\/ (∀i,jm name x.l.length=some i->x.l.length<i)):
 Calls prog 215 #[x.val ka kc la lc, .string name, .pointer (some ⟨bx,0,none⟩)] w (eO S x (.int .i64 3) w):=by
 have mU:(x.k==5)=false:=by simpa using h5
 have aH:=ae hin;have hll:=x.jO;clear hin h5;by_cases h4:x.k=4
 ·have hk4:(x.k==4)=true:=by simpa using h4
  have GX:=ae (hno.resolve_left (fun h=>h h4));clear hno h4
  cases hi:jm name x.l.length with
  |none=>
   have Hi:=ae hi;clear hi;go_enter func215,ntmps215;go_upto_region 5 with fail
   refine aI (R:=fun wx=>aC wx w.heap.size x ka kc la lc/\aN wx (w.heap.size+1)/\Ext w wx) ⟨aj,aj,Xt⟩ ?_;rintro wa ⟨ag,ai,aD⟩;obtain⟨hc0,ax,hl0⟩:=ag.see;go_wp2_with fail;(refine(A1 name x.l.length (by omega) (by omega) _ (hl.ext Xt)).mono ?_);rintro e w1 ⟨rfl,h1⟩;rw [Hi.out];have ag:=af.ext (w:=wa) (w':=w1) Xt ag;have ai:=af.ext (w:=wa) (w':=w1) Xt ai;have hx1:Ext w w1:=Xt;clear h1 aD hc0 ax hl0;obtain⟨hc0,ax,hl0⟩:=ag.see;obtain⟨hc1,aA,ay⟩:=ai.see;go_wp2_with fail;refine aF (h:= ?_);exact⟨ka,kc,la,lc,rfl,(aH.out.ext Xt).mono (fun b h _=> .inl h),Xt⟩
  |some i=>
   have hlt:=GX.out i hi;have Hi:=ae hi;clear hi;have hle:¬(i:Int)<= (x.l.length:Int):=by omega
   have Vp:(x.l.length:Int)<(i:Int):=by omega
   go_enter func215,ntmps215;go_upto_region 5 with fail
   refine aI (R:=fun wx=>aC wx w.heap.size x ka kc la lc/\aN wx (w.heap.size+1)/\Ext w wx) ⟨aj,aj,Xt⟩ ?_;rintro wa ⟨ag,ai,aD⟩;obtain⟨hc0,ax,hl0⟩:=ag.see;go_wp2_with fail;(refine(A1 name x.l.length (by omega) (by omega) _ (hl.ext Xt)).mono ?_);rintro e w1 ⟨rfl,h1⟩;rw [Hi.out];have ag:=af.ext (w:=wa) (w':=w1) Xt ag;have ai:=af.ext (w:=wa) (w':=w1) Xt ai;have hx1:Ext w w1:=Xt;clear h1 aD hc0 ax hl0;obtain⟨hc0,ax,hl0⟩:=ag.see;obtain⟨hc1,aA,ay⟩:=ai.see;go_wp2_with fail;refine aF (h:= ?_);exact⟨ka,kc,la,lc,rfl,(aH.out.ext Xt).mono (fun b h _=> .inl h),Xt⟩
 ·have hk4:(x.k==4)=false:=by simpa using h4
  clear hno h4;go_enter func215,ntmps215;go_wp2_with fail;refine aF (h:= ?_);exact⟨ka,kc,la,lc,rfl,(aH.out.ext Xt).mono (fun b h _=> .inl h),Xt⟩
theorem aaN (y:V) (kb:aq) (kd:Nat) (lb:aq) (ld:Nat) (bx:Nat) (x:V) (ka:aq) (kc:Nat) (la:aq) (lc:Nat) (name:ah) (S:aw) (w:World) (fB:Hid (∀b,S b->b<w.heap.size)) (dH:aC w bx y kb kd lb ld) (hjn:y.In w S kb kd lb ld) (hl:cS w)
 (cK:x.sound) (hsz:x.size<=1073741824) (hn:name.size<=8000) (hin:x.In w S ka kc la lc):
 Calls prog 217 #[x.val ka kc la lc, .string name, .pointer (some ⟨bx,0,none⟩)] w (eO S (gN y x name).1 (.int .i64 (gN y x name).2) w):=by
 have MR:=dH.lt;have aH:=ae hin;have mq:=ae hjn;clear hjn
 cases hch:x.child name with
 |none=>
  have hp:gN y x name=(x,3):=by unfold gN;rw [hch]
  have Hp:=ae hp;have lN:=ae hch;clear hin hp hch;go_enter func217,ntmps217;go_upto_region 1 with fail
  refine aI (R:=fun wx=>aC wx w.heap.size x ka kc la lc/\aN wx (w.heap.size+1)/\Ext w wx) ⟨aj,aj,Xt⟩ ?_;rintro wa ⟨ag,ai,aD⟩;obtain⟨hc0,ax,hl0⟩:=ag.see;go_wp2_with fail;(refine(tP x ka kc la lc _ name _ cK hsz (by omega) (aH.out.ext Xt) (hl.ext Xt)).mono ?_);rintro e w1 ⟨q,rfl,-,h1⟩;rw [lN.out];have ag:=af.ext h1 ag;have ai:=af.ext h1 ai;have hx1:Ext w w1:=Xt;clear h1 aD hc0 ax hl0;obtain⟨hc0,ax,hl0⟩:=ag.see;obtain⟨hc1,aA,ay⟩:=ai.see;go_wp2_with fail;refine aF (h:= ?_);rw [Hp.out];exact⟨ka,kc,la,lc,rfl,(aH.out.ext Xt).mono (fun b h _=> .inl h),Xt⟩
 |some i=>
  have hi:=uX cK hch;have hp:gN y x name=(x.jK i y,0):=by unfold gN;rw [hch]
  obtain⟨b',o',rfl,zu,-⟩:=hin.item hi;have Hp:=ae hp;have lN:=ae hch;clear hin hp hch;go_enter func217,ntmps217;go_upto_region 1 with fail
  refine aI (R:=fun wx=>aC wx w.heap.size x ka kc (some ⟨b',o',none⟩) lc/\aN wx (w.heap.size+1)/\Ext w wx) ⟨aj,aj,Xt⟩ ?_;rintro wa ⟨ag,ai,aD⟩;obtain⟨hc0,ax,hl0⟩:=ag.see;go_wp2_with fail;(refine(tP x ka kc _ lc _ name _ cK hsz (by omega) (aH.out.ext Xt) (hl.ext Xt)).mono ?_);rintro e w1 ⟨q,rfl,hq,h1⟩;obtain rfl:=hq i lN.out;rw [lN.out];have ag:=af.ext h1 ag;have ai:=af.ext h1 ai;have hx1:Ext w w1:=Xt;have dP:=af.ext hx1 dH;have aT:Hid (y.In w1 (fun b=>S b\/w.heap.size+2<=b) kb kd lb ld):=(mq.out.ext hx1).mono (fun b h _=> .inl h);clear h1 aD hc0 ax hl0 hq;obtain⟨gP,fU,hst,gQ⟩:=(V.df ..).1 aH.out;have hll:=x.jO;have Cl:=ae (fun w' (e:Ext w w')=>Fj x.l _ _ _ S w' rfl fU (by omega) (gQ.ext e));have aP:=ae hst;clear hst gQ;go_upto_region 4 with fail
  refine aI (R:=fun wx=>aC wx w.heap.size x ka kc (some ⟨b',o',none⟩) lc/\aN wx (w.heap.size+1)/\aC wx bx y kb kd lb ld/\ (y).In wx (fun b=>S b\/w.heap.size+2<=b) kb kd lb ld/\Ext w wx) ⟨aj,aj,aj,aT.out.ext Xt,Xt⟩ ?_;clear ag ai dP;rintro wc ⟨ag,ai,dP,hjn,fg⟩;obtain⟨hc0,ax,hl0⟩:=ag.see;go_upto_region 5 with(go_at_call 61;refine(Cl.out _ Xt).mono ?_;rintro e w3 ⟨a3,c3,rfl,jw,⟨PT,eo,vR⟩,h3⟩;have iD:=af.ext h3 ag;obtain⟨Cr,Ct,Cu⟩:=iD.see)
  obtain⟨g,cur,rfl,hgb,hBg,hcz,hits⟩:=pJ (by omega) rfl eo vR;have vS:(y).In w3 (fun b=>(S b\/w.heap.size+2<=b)/\b<wc.heap.size) kb kd lb ld:=(hjn.mono (fun b h hlt=>⟨h,hlt⟩)).ext h3;have ay:=ai.lt;have pH:=dP.lt;have lh:=af.ext h3 ai;have Cv:=af.ext h3 dP;have hx3:Ext w w3:=Xt;have fV:=ae hits;have Cw:=ae vS;clear hits eo vR hjn vS ag ai dP h3 hc0 ax hl0;refine aI (R:=fun wx=>aC wx w.heap.size x ka kc (some ⟨g,0,none⟩) c3/\aN wx (w.heap.size+1)/\aC wx bx y kb kd lb ld/\af wx g cur 36/\Held (fun b=>b≠w.heap.size) w3 wx/\Ext w wx) ⟨aj,aj,aj,aj,aB,Xt⟩ ?_;clear iD lh Cv hBg Cr Ct Cu;rintro wx ⟨ag,ai,dP,hBg,gX,nC⟩;have pq:w.heap.size+2<=wc.heap.size:=ay;have rb:Hid (∀i (h:i<x.l.length),V.Item wx (fun b=>(S b\/w.heap.size+2<=b)/\b<wc.heap.size) g (i*5) x.l[i]):=fun i h=>((fV.out i h).keep' (T:=fun b=>b≠w.heap.size) (by simp;omega) gX.kept (fun b h=>by have:=fB.out b h;simp;omega)).mono (fun b h=>⟨.inl h,by have:=fB.out b h;omega⟩);have Cx:Hid ((y).In wx (fun b=>(S b\/w.heap.size+2<=b)/\b<wc.heap.size) kb kd lb ld):=Cw.out.keep (Held.kept (gX.mono (fun b h=>by rcases h.1 with h|h;(have:=fB.out b h;simp;omega);(simp;omega)))) (fun _ h _=>h);obtain⟨hc0,ax,hl0⟩:=ag.see;obtain⟨su,iW,pH⟩:=dP.see;obtain⟨yl,ym,yo⟩:=hBg.see;have hq0:(0:Int)<= (q:Int):=by omega
  have hq1:(q:Int)<(x.l.length:Int):=by omega
  have kD:Hid (wx.there g (q*5) 5):=Ff hBg (by omega);clear yl ym;go_upto_region 6 with(refine wpList_store_mid rfl 36 _ _ rfl g (q*5) #[.int .i64 y.k, .int .i64 y.n, .string y.s, .slice kb y.keys.length kd, .slice lb y.l.length ld] (by rfl) (by rfl) (by exact kD.out) Tryz.Fg (all_oneCell_toArray (V.lY (y) kb kd lb ld)) ?_)
  have rf:∀i (h:i<(x.l.set q (y)).length),V.Item (wx.setCells g (q*5) (V.five (y) kb kd lb ld)) (fun b=>(S b\/w.heap.size+2<=b)/\b<wc.heap.size) g (i*5) (x.l.set q (y))[i]:=
   Fe hBg rb.out hi hcz Cx.out (hBg.jx _ _ _ _ _ _) (Held.kept (Held.jx (Held.refl _ _) (by simp;omega) _ _))
  refine aI (R:=fun wy=>aC wy w.heap.size x ka kc (some ⟨g,0,none⟩) c3/\aN wy (w.heap.size+1)/\ (∀i (h:i<(x.l.set q (y)).length),V.Item wy (fun b=>(S b\/w.heap.size+2<=b)/\b<wc.heap.size) g (i*5) (x.l.set q (y))[i])/\Ext w wy)
   ⟨ag.mG (by omega) _ _,ai.mG (by omega) _ _,rf,nC.jx (by omega) _ _⟩ ?_
  clear ag ai dP hBg hc0 ax hl0 su iW pH yo rf gX nC kD fV rb;rintro wy ⟨ag,ai,hits,hxy⟩;obtain⟨hc0,ax,hl0⟩:=ag.see;obtain⟨hc1,aA,ay⟩:=ai.see;have fV:=ae hits;clear hits;go_wp2_with fail;refine aF (h:= ?_)
  skip;(rw [Hp.out];dsimp only)
  refine⟨ka,kc,some ⟨g,0,none⟩,c3,?_,(V.df ..).2 ⟨gP,?_,aP.out.keep (Ext.kept Xt _) (fun b h _=> .inl h), .inr ⟨g,0,rfl, .inr (by omega),fun i hi=> ?_⟩⟩,Xt⟩
  ·simp [V.jK,V.val]
  ·simpa [V.jK] using jw
  ·rw [Nat.zero_add]
   exact((fV.out i hi).keep' (T:=fun b=>b≠w.heap.size+1) (by simp;omega) (Held.kept (a:=wy) aB) (fun b h=>by rcases h.1 with h|h;(have:=fB.out b h;simp;omega);(simp;omega))).mono (fun b h=>by rcases h.1 with h|h;exact .inl h;exact .inr (by omega))
theorem GU (y:V) (kb:aq) (kd:Nat) (lb:aq) (ld:Nat) (bx:Nat) (S:aw) (w0:World) (hS:∀b,S b->b<w0.heap.size) (dH:aC w0 bx y kb kd lb ld) (hjn:y.In w0 S kb kd lb ld) (hl:cS w0):
 Does (gN y) S 217 #[.pointer (some ⟨bx,0,none⟩)] w0:=by
 intro x ka kc la lc name w' hw cK hsz hn hin;exact aaN y kb kd lb ld bx x ka kc la lc name S w' (fun b h=>Nat.lt_of_lt_of_le (hS b h) hw.size) (af.ext hw dH) (hjn.ext hw) (hl.ext hw) cK hsz hn hin
theorem GR (args:Array Value) (w:World):(callFunc 217 args).run prog w= .ok (.enter 217 args) w:=enters func217 (by kernel_rfl) (by rfl) args w
end Go.Proofs.YtlcebdaghmdkeabGreatDoor
namespace Go.Proofs.YtlcebdaghmdkeabGreatDoor
open Go.RowKit
attribute [local go_sem↓] Go.wp_at_zero Go.wp_at_succ
def Half (w:World) (base:Nat) (S:aw) (v:Value) (l:List V) (k:Nat):Prop:=
 ∃xs,w.ownsRow base 36 5 v l.length xs/\cH w (dR base (fun _=>False) v) (l.take k) (xs.take (k*5))/\cH w S (l.drop k) (xs.drop (k*5))
theorem Half.keep {w w':World} {base:Nat} {S:aw} {v:Value} {l:List V} {k:Nat} (h:Half w base S v l k) (hS:∀b,S b->b<base) (e:Held (fun b=>S b\/base<=b) w w'):Half w' base S v l k:=by
 obtain⟨xs,h1,h2,h3⟩:=h;exact⟨xs,dL h1 (fun b hb he=>e.block b (.inr (h1.lt b he).1) hb),h2.keep (fun b hb hl=>e.block b (.inr (by rcases hb with hb|hb;exact hb.2.elim;exact hb.1)) hl) (fun _ h _=>h),h3.keep (fun b hb hl=>e.block b (.inl hb) hl) (fun _ h _=>h)⟩
theorem Half.item {w:World} {base:Nat} {S:aw} {g c:Nat} {l:List V} {k:Nat} (h:Half w base S (.slice (some ⟨g,0,none⟩) l.length c) l k) (hk:k<l.length):V.Item w S g (k*5) l[k]:=by
 obtain⟨xs,h1,-,h3⟩:=h;rw [List.drop_eq_getElem_cons hk] at h3;obtain⟨ka,kc,la,lc,t,hx,hin,-⟩:=h3.Fb;have hc:=h1.cells (g:=g) rfl;have hq:∀q u,(l[k].five ka kc la lc)[q]? =some u->w.cell? ⟨g,k*5+q,none⟩=some u:=fun q u hq=>by
  have:=hc (k*5+q) u (by rw [<-List.getElem?_drop,hx,List.getElem?_append_left (List.getElem?_eq_some_iff.1 hq).1];exact hq)
  rwa [Addr.add_lit,Nat.zero_add] at this
 exact⟨ka,kc,la,lc,⟨hq 0 _ rfl,hq 1 _ rfl,hq 2 _ rfl,hq 3 _ rfl,hq 4 _ rfl⟩,hin⟩
theorem Half.set {w:World} {base:Nat} {S:aw} {g c:Nat} {l:List V} {k:Nat} (h:Half w base S (.slice (some ⟨g,0,none⟩) l.length c) l k) (hS:∀b,S b->b<base) (hk:k<l.length) (hg:base<=g) {ka:aq} {kc:Nat} {la:aq} {lc:Nat}
 (hx:l[k].In w (dR base (fun _=>False) (.slice (some ⟨g,0,none⟩) l.length c)) ka kc la lc):Half (w.setCells g (k*5) (l[k].five ka kc la lc)) base S (.slice (some ⟨g,0,none⟩) l.length c) l (k+1):=by
 obtain⟨xs,h1,h2,h3⟩:=h;have hl:=h1.1;have h5:(l[k].five ka kc la lc).length=5:=rfl;have hk1:Kept (fun b=>b≠g) w (w.setCells g (k*5) (l[k].five ka kc la lc)):=Held.kept (Held.jx (Held.refl _ _) (fun h=>h rfl) _ _);have hF:∀b,dR base (fun _=>False) (.slice (some ⟨g,0,none⟩) l.length c) b->b≠g:=fun b hb e=>by rcases hb with hb|hb;exact hb.2;exact hb.2 (by rw [e];rfl)
 have ho:=AJ (o:=k*5) (cs:=l[k].five ka kc la lc) h1 (by rw [h5];omega);refine⟨_,ho,?_,?_⟩
 ·rw [List.take_succ_eq_append_getElem hk,List.append_assoc,List.take_append,List.length_take,Nat.min_eq_left (by omega),List.take_take,Nat.min_eq_right (by omega),show (k+1)*5-k*5=5 by omega,List.take_append_of_le_length (by rw [h5];omega),List.take_of_length_le (l:=l[k].five ka kc la lc) (by rw [h5];omega)]
  exact(h2.keep (hk1.mono hF) (fun _ h _=>h)).snoc (hx.keep (hk1.mono hF) (fun _ h _=>h))
 ·have h4:=(h3.cut 1).2
  rw [List.drop_drop,List.drop_drop] at h4;rw [List.append_assoc,List.drop_append,List.length_take,Nat.min_eq_left (by omega),List.drop_of_length_le (l:=xs.take (k*5)) (by rw [List.length_take];omega),show (k+1)*5-k*5=5 by omega,List.nil_append,List.drop_left' h5];exact h4.keep (hk1.mono fun b hb=>by have:=hS b hb;omega) (fun _ h _=>h)
theorem Half.all {w:World} {base:Nat} {S:aw} {v:Value} {l:List V} (h:Half w base S v l l.length):∃a c,v= .slice a l.length c/\aM a l.length c/\Rows w (fun b=>base<=b) l a:=by
 obtain⟨xs,h1,h2,-⟩:=h;rw [List.take_length,List.take_of_length_le (by have:=h1.1;omega)] at h2;obtain⟨a,c,h3,h4,h5,h6⟩:=gA.rows (S:=fun _=>False) ⟨rfl,xs,h1,h2⟩;exact⟨a,c,h3,h4,h6.keep (fun _ _ _=>rfl) fun b hb _=>by rcases hb with hb|hb;exact hb.2.elim;exact hb⟩
theorem Half.block {w:World} {base:Nat} {S:aw} {v:Value} {l:List V} {k:Nat} (h:Half w base S v l k) (hl:0<l.length):∃g c,v= .slice (some ⟨g,0,none⟩) l.length c/\base<=g/\g<w.heap.size/\∀i,w.frozen? ⟨g,i,none⟩=false:=by
 obtain⟨xs,h1,-,-⟩:=h;obtain⟨g,cap,cur,hv,hb,hg,-⟩:=pz h1 hl;have hB:af w g cur 36:=hg;exact⟨g,cap,hv,hb,hB.lt,hB.free⟩
end Go.Proofs.YtlcebdaghmdkeabGreatDoor
namespace Go.Proofs.YtlcebdaghmdkeabGreatDoor
open Go.Proofs.Tryz
open Go.RowKit
attribute [local go_sem↓] Go.wp_at_zero Go.wp_at_succ
theorem adB (a:aq) (n c:Nat) (news:List Value) (w:World) (hok:aM a n c) (hbig:n<=1073741824) (hl:news.length=n*2) (hsrc:n=0\/∃ad,a=some ad/\∀j u,news[j]? =some u->w.cell? (ad.add j)=some u) (h1:∀u∈news,u.oneCell'=true):
 Calls prog 35 #[.slice a n c] w fun e w'=>∃a' c',e= .returned (.slice a' n c')/\aM a' n c'/\w'.ownsRow w.heap.size 58 2 (.slice a' n c') n news/\Ext w w':=by
 obtain⟨i0,hi,hz0,hz1,hz2⟩:=info_parts Tryz.CH;have PO:∀(w:World) (a:aq) (n c n' c':Nat),(binOp .eql 37 (.slice a n c) (.slice none n' c')).run prog w= .ok (.bool a.isNone) w:=fun w a n c n' c'=>Lib.run_eql_slice_nil w _ _ a n c n' c' underlying37
 cases a with
 |none=>
  obtain rfl:=hok.2.2 rfl;obtain rfl:n=0:=by have:=hok.1;omega
  obtain rfl:news= []:=List.eq_nil_of_length_eq_zero (by simpa using hl);clear hok hl hsrc h1;go_enter func35,ntmps35;go_wp2_with fail;go_ret;exact⟨none,0,rfl,aM.nil,World.ownsRow_nil _ _ _ _,Ext.refl _⟩
 |some ad=>
  have hc:∀j u,news[j]? =some u->w.cell? (ad.add j)=some u:=by
   rcases hsrc with h0|⟨PQ,he,h⟩
   ·subst h0
    obtain rfl:news= []:=List.eq_nil_of_length_eq_zero (by simpa using hl);intro j u hj;simp at hj
   ·simp only [Option.some.injEq] at he;subst he;exact h
  have Hc:=ae hc;have Hl:=ae hl;clear hc hsrc hl;have h63:n<=maxLen:=by unfold maxLen;omega
  go_enter func35,ntmps35;go_wp2_with (at_builtin;refine wpList_append_own _ rfl _ _ 37 rfl w.heap.size 58 i0 _ 2 40 underlying37 hi hz0 hz1 hz2 rfl (by decide) _ _ _ rfl (World.ownsRow_made w #[] 0 (Nat.le_refl _) (Nat.zero_le _) (by simp)) ad n c news rfl ?qc1 ?qc2 ?qc3 ?qc4 ?qc5 ?qc6 ?_)
  case qc1=>exact Hl.out
  case qc2=>
   intro j u hj;exact Lib.cell?_alloc_some _ (Hc.out j u hj)
  case qc3=>exact h1
  case qc4=>rw [Nat.zero_add];exact h63
  case qc5=>rw [Nat.zero_add];omega
  case qc6=>simp
  intro v' w1 hown hgrow hnil;obtain⟨a',c',rfl,uq⟩:=fG hown;go_wp2;go_ret;refine⟨a',c',by simp,by simpa using uq,by simpa using hown,?_⟩;exact((Below.refl _ w).alloc (Nat.le_refl _) _).grown hgrow (by simp) (by intro k hk;simp [Value.ownBlock] at hk;omega)
theorem cY.cut {w:World} {T:aw} {l:List Ow} {xs:List Value} (h:cY w T l xs) (k:Nat):cY w T (l.take k) (xs.take (k*2))/\cY w T (l.drop k) (xs.drop (k*2)):=by
 induction l generalizing xs k with
 |nil=>subst h;simp [cY]
 |cons y r ih=>
  match k with
  |0=>simpa [cY] using h
  |k+1=>
   obtain⟨a,b,t,rfl,h1,h2⟩:=h;obtain⟨h3,h4⟩:=ih h2 k;rw [show (k+1)*2=k*2+1+1 by omega];exact⟨⟨a,b,_,rfl,h1,h3⟩,h4⟩
def ji (w:World) (base:Nat) (S:aw) (v:Value) (l:List Ow) (k:Nat):Prop:=
 ∃xs,w.ownsRow base 58 2 v l.length xs/\cY w (dR base (fun _=>False) v) (l.take k) (xs.take (k*2))/\cY w S (l.drop k) (xs.drop (k*2))
theorem ji.keep {w w':World} {base:Nat} {S:aw} {v:Value} {l:List Ow} {k:Nat} (h:ji w base S v l k) (e:Held (fun b=>S b\/base<=b) w w'):ji w' base S v l k:=by
 obtain⟨xs,h1,h2,h3⟩:=h;exact⟨xs,dL h1 (fun b hb he=>e.block b (.inr (h1.lt b he).1) hb),h2.keep (fun b hb hl=>e.block b (.inr (by rcases hb with hb|hb;exact hb.2.elim;exact hb.1)) hl) (fun _ h _=>h),h3.keep (fun b hb hl=>e.block b (.inl hb) hl) (fun _ h _=>h)⟩
theorem ji.item {w:World} {base:Nat} {S:aw} {g c:Nat} {l:List Ow} {k:Nat} (h:ji w base S (.slice (some ⟨g,0,none⟩) l.length c) l k) (hk:k<l.length):
 ∃pa pc,w.cell? ⟨g,k*2,none⟩=some (.string l[k].name)/\w.cell? ⟨g,k*2+1,none⟩=some (.slice pa l[k].paths.length pc)/\aM pa l[k].paths.length pc/\bC w S pa l[k].paths:=by
 obtain⟨xs,h1,-,h3⟩:=h;rw [List.drop_eq_getElem_cons hk] at h3;obtain⟨pa,pc,t,hx,hin,-⟩:=h3;have hc:=h1.cells (g:=g) rfl;have hq:∀q u,([Value.string l[k].name, .slice pa l[k].paths.length pc]++t)[q]? =some u->w.cell? ⟨g,k*2+q,none⟩=some u:=fun q u hq=>by
  have:=hc (k*2+q) u (by rw [<-List.getElem?_drop,hx];exact hq)
  rwa [Addr.add_lit,Nat.zero_add] at this
 exact⟨pa,pc,hq 0 _ rfl,hq 1 _ rfl,hin.1,hin.2⟩
theorem ji.set {w:World} {base:Nat} {S:aw} {g c:Nat} {l:List Ow} {k:Nat} (h:ji w base S (.slice (some ⟨g,0,none⟩) l.length c) l k) (hS:∀b,S b->b<base) (hk:k<l.length) (hg:base<=g) {pa:aq} {pc:Nat}
 (hok:aM pa l[k].paths.length pc) (hx:bC w (dR base (fun _=>False) (.slice (some ⟨g,0,none⟩) l.length c)) pa l[k].paths):ji (w.setCell ⟨g,k*2+1,none⟩ (.slice pa l[k].paths.length pc)) base S (.slice (some ⟨g,0,none⟩) l.length c) l (k+1):=by
 obtain⟨xs,h1,h2,h3⟩:=h;have hl:=h1.1;have hk1:Kept (fun b=>b≠g) w (w.setCell ⟨g,k*2+1,none⟩ (.slice pa l[k].paths.length pc)):=Held.kept (Held.set (Held.refl _ _) (fun h=>h rfl) _);have hF:∀b,dR base (fun _=>False) (.slice (some ⟨g,0,none⟩) l.length c) b->b≠g:=fun b hb e=>by rcases hb with hb|hb;exact hb.2;exact hb.2 (by rw [e];rfl)
 have ho:(w.setCell ⟨g,k*2+1,none⟩ (.slice pa l[k].paths.length pc)).ownsRow base 58 2 (.slice (some ⟨g,0,none⟩) l.length c) l.length _:=AJ (o:=k*2+1) (cs:= [.slice pa l[k].paths.length pc]) h1 (by simp only [List.length_cons,List.length_nil];omega);have h4:=(h3.cut 1).2;rw [List.drop_eq_getElem_cons hk] at h3;obtain⟨pa0,pc0,t,hx0,pK,h5⟩:=h3;rw [List.drop_drop,List.drop_drop] at h4;have e1:xs.take (k*2+1)=xs.take (k*2)++ [Value.string l[k].name]:=by rw [List.take_add,hx0];rfl
 have hlt:(xs.take (k*2)).length=k*2:=by rw [List.length_take];omega
 have e2:xs.take (k*2+1)++ [Value.slice pa l[k].paths.length pc]=xs.take (k*2)++ [Value.string l[k].name, .slice pa l[k].paths.length pc]:=by rw [e1,List.append_assoc];rfl
 have hl2:(xs.take (k*2)++ [Value.string l[k].name, .slice pa l[k].paths.length pc]).length=(k+1)*2:=by rw [List.length_append,hlt];simp;omega
 refine⟨_,ho,?_,?_⟩
 ·rw [e2,List.take_left' hl2,List.take_succ_eq_append_getElem hk]
  exact(h2.keep (hk1.mono hF) (fun _ h _=>h)).app (.one hok (hx.keep (hk1.mono hF) (fun _ h _=>h)))
 ·rw [e2,List.drop_left' hl2]
  exact h4.keep (hk1.mono fun b hb=>by have:=hS b hb;omega) (fun _ h _=>h)
theorem ji.block {w:World} {base:Nat} {S:aw} {v:Value} {l:List Ow} {k:Nat} (h:ji w base S v l k) (hl:0<l.length):∃g c,v= .slice (some ⟨g,0,none⟩) l.length c/\base<=g/\g<w.heap.size/\∀i,w.frozen? ⟨g,i,none⟩=false:=by
 obtain⟨xs,h1,-,-⟩:=h;obtain⟨g,cap,cur,hv,hb,hg,-⟩:=pz h1 hl;have hB:af w g cur 58:=hg;exact⟨g,cap,hv,hb,hB.lt,hB.free⟩
theorem ji.all {w:World} {base:Nat} {S:aw} {v:Value} {l:List Ow} (h:ji w base S v l l.length):∃a c,v= .slice a l.length c/\aM a l.length c/\cj w (fun b=>base<=b) l a:=by
 obtain⟨xs,h1,h2,-⟩:=h;rw [List.take_length,List.take_of_length_le (by have:=h1.1;omega)] at h2;obtain⟨a,c,h3,h4,h5,h6⟩:=jX.rows (S:=fun _=>False) ⟨rfl,xs,h1,h2⟩;exact⟨a,c,h3,h4,h6.keep (fun _ _ _=>rfl) fun b hb _=>by rcases hb with hb|hb;exact hb.2.elim;exact hb⟩
theorem ji.nil {w:World} {base:Nat} {S:aw} {l:List Ow} {a:aq} {c n:Nat} {xs:List Value} (hn:l.length=n) (h:w.ownsRow base 58 2 (.slice a n c) n xs) (hc:cY w S l xs):ji w base S (.slice a n c) l 0:=by
 subst hn;exact⟨xs,h,by simp [cY],by simpa using hc⟩
end Go.Proofs.YtlcebdaghmdkeabGreatDoor
namespace Go.Proofs.YtlcebdaghmdkeabGreatDoor
open Go.RowKit
attribute [local go_sem↓] Go.wp_at_zero Go.wp_at_succ
def uU (w:World) (base:Nat) (v:Value) (n:Nat) (l:List Th):Prop:=
 l.length=n/\∃xs,w.ownsRow base 41 15 v n xs/\fA w (dR base (fun _=>False) v) l xs
theorem uU.nil (w:World) (base:Nat):uU w base (.slice none 0 0) 0 []:=⟨rfl, [],World.ownsRow_nil _ _ _ _,rfl⟩
theorem uU.ext {w w':World} {base:Nat} {v:Value} {n:Nat} {l:List Th} (h:uU w base v n l) (e:Ext w w'):uU w' base v n l:=by
 obtain⟨h0,xs,h1,h2⟩:=h;exact⟨h0,xs,eu h1 e,h2.keep (e.kept _) (fun _ h _=>h)⟩
theorem uU.form {w:World} {base:Nat} {v:Value} {n:Nat} {l:List Th} (h:uU w base v n l):∃a c,v= .slice a n c/\aM a n c:=by
 obtain⟨-,xs,h1,-⟩:=h;exact fG h1
def jF (w:World) (S:aw) (l:List Th) (a:aq):Prop:=
 ∃xs,(l= []\/∃b,a=some ⟨b,0,none⟩/\S b/\b<w.heap.size/\∀j u,xs[j]? =some u->w.cell? ⟨b,j,none⟩=some u)/\fA w S l xs
theorem uU.az {w:World} {base:Nat} {v:Value} {n:Nat} {l:List Th} (h:uU w base v n l):∃a c,v= .slice a n c/\aM a n c/\l.length=n/\jF w (fun b=>base<=b) l a:=by
 obtain⟨h0,xs,h1,h2⟩:=h;have h3:=h2.keep (T:=fun b=>base<=b) (fun _ _ _=>rfl) (fun b hb _=>by rcases hb with hb|hb;exact hb.2.elim;exact hb.1);obtain⟨a,c,rfl,hok⟩:=fG h1;refine⟨a,c,rfl,hok,h0,xs,?_,h3⟩;rcases h1.2 with⟨-,hn⟩|⟨g,cap,cur,hv,hb,hg,-,-,-,ht⟩
 ·exact .inl (List.length_eq_zero_iff.1 (by omega))
 ·cases hv
  have hB:af w g cur 41:=hg;refine .inr ⟨g,rfl,hb,hB.lt,fun j u hj=> ?_⟩;have:=h1.cells (g:=g) rfl j u hj
  rwa [Addr.add_lit,Nat.zero_add] at this
theorem jF.ext {w w':World} {S:aw} {l:List Th} {a:aq} (h:jF w S l a) (e:Ext w w'):jF w' S l a:=by
 obtain⟨xs,h1,h2⟩:=h;refine⟨xs,?_,h2.keep (e.kept _) (fun _ h _=>h)⟩;rcases h1 with h1|⟨b,h3,h4,h5,h6⟩
 ·exact .inl h1
 ·exact .inr ⟨b,h3,h4,Nat.lt_of_lt_of_le h5 e.size,fun j u hj=>e.cell (h6 j u hj)⟩
theorem jF.at {w:World} {S:aw} {l:List Th} {a:aq} (h:jF w S l a) {i:Nat} (hi:i<l.length):∃b ka kc la lc oa oc,a=some ⟨b,0,none⟩/\S b/\b<w.heap.size/\ (∀q u,(l[i].cells ka kc la lc oa oc)[q]? =some u->w.cell? ⟨b,i*15+q,none⟩=some u)/\kZ w S l[i] ka kc la lc oa oc:=by
 obtain⟨xs,h1,h2⟩:=h;obtain⟨b,h3,h4,h5,h6⟩:=h1.resolve_left (by intro e;rw [e] at hi;simp at hi);obtain⟨ka,kc,la,lc,oa,oc,h7,h8⟩:=h2.at hi;refine⟨b,ka,kc,la,lc,oa,oc,h3,h4,h5,fun q u hq=> ?_,h8⟩;rw [<-h7,List.getElem?_take] at hq
 split at hq
 ·rw [List.getElem?_drop] at hq;exact h6 _ _ hq
 ·cases hq
end Go.Proofs.YtlcebdaghmdkeabGreatDoor
