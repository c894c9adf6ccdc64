import Derived.Test.YtlcebdaghmdkeaaGreatDoorZ11
import Derived.Test.YtlcebdaghmdkeaaGreatDoorZ15
import Derived.Test.YtlcebdaghmdkeaaGreatDoorZ18
set_option linter.all false
set_option maxRecDepth 100000
set_option maxHeartbeats 64000000
namespace Go.Proofs.YtlcebdaghmdkeaaGreatDoor
open Go.Proofs.Tryz
open Go.RowKit
attribute [local go_sem↓] Go.wp_at_zero Go.wp_at_succ
theorem WL (y:V) (kb:aq) (kd:Nat) (lb:aq) (ld:Nat) (bx:Nat) (x:V) (ka:aq) (kc:Nat) (la:aq) (lc:Nat) (name:ah) (S:aA) (w:World) (fM:Hid (∀b,S b->b<w.heap.size)) (dN:aD w bx y kb kd lb ld) (hjn:y.In w S kb kd lb ld) (hl:cZ w)
 (hsz:x.size<=1073741824) (hn:name.size<=8000) (hin:x.In w S ka kc la lc) (h4:x.k=4) (p:Nat) (hi:Hid (jF name x.l.length=some p)) (hp:p<=x.l.length):
 Calls prog 158 #[x.val ka kc la lc, .string name, .pointer (some ⟨bx,0,none⟩)] w (eY S (x.nT p y) (.int .i64 0) w):=by
 have Ov:=dN.lt;have mP:(x.k==5)=false:=by simpa using (show x.k≠5 by omega)
 have hk4:(x.k==4)=true:=by simpa using h4
 have hle:(p:Int)<= (x.l.length:Int):=by omega
 have WK:¬(x.l.length:Int)<(p:Int):=by omega
 have hll:=x.kI;obtain⟨ib,gj,hst,ic⟩:=(V.dD ..).1 hin;obtain⟨news,hnl,lM,jG⟩:=zW ic;have h1c:=jG.one;have cl:∀w',Ext w w'->Calls prog 41 #[.slice la x.l.length lc] w' fun e w''=>∃a' c',e= .returned (.slice a' x.l.length c')/\aO a' x.l.length c'/\w''.ownsRow w'.heap.size 41 5 (.slice a' x.l.length c') x.l.length news/\Ext w' w'':=fun w' e=>
  zX la x.l.length lc news w' gj (by omega) hnl (by rcases lM with h|⟨ad,h,h'⟩;exact .inl h;exact .inr ⟨ad,h,fun j u hj=>e.cell (h' j u hj)⟩) h1c
 have Cl:=ae cl;have lh:=ae h1c;have kJ:=ae jG;have aQ:=ae hst;have aV:=ae hjn;have aJ:=ae hin;clear cl h1c jG hst hjn hin hnl lM ic h4;go_enter func158,ntmps158;go_upto_region 5 with fail
 refine aI (R:=fun wx=>aD wx w.heap.size x ka kc la lc/\aN wx (w.heap.size+1)/\Ext w wx) ⟨aj,aj,Xt⟩ ?_;rintro wa ⟨ag,ai,aF⟩;obtain⟨hc0,aw,hl0⟩:=ag.see;go_wp2_with fail;(refine(BW name x.l.length (by omega) (by omega) _ (hl.ext Xt)).mono ?_);rintro e w1 ⟨rfl,h1⟩;rw [hi.out];have ag:=af.ext (w:=wa) (w':=w1) Xt ag;have ai:=af.ext (w:=wa) (w':=w1) Xt ai;have hx1:Ext w w1:=Xt;clear h1 aF hc0 aw hl0;obtain⟨hc0,aw,hl0⟩:=ag.see;go_upto_region 7 with fail
 refine aI (R:=fun wx=>aD wx w.heap.size x ka kc la lc/\aN wx (w.heap.size+1)/\Ext w wx) ⟨aj,aj,Xt⟩ ?_;clear ag ai hx1 hc0 aw hl0;rintro wb ⟨ag,ai,aP⟩;have dU:=af.ext aP dN;have hbl:=ai.lt
 have au:∀w',Ext wb w'-> (w'.cell? ⟨w.heap.size,4,none⟩=some (.slice la x.l.length lc)/\w'.cell? ⟨bx,0,none⟩=some (.int .i64 y.k)/\w'.cell? ⟨bx,1,none⟩=some (.int .i64 y.n)/\w'.cell? ⟨bx,2,none⟩=some (.string y.s)/\w'.cell? ⟨bx,3,none⟩=some (.slice kb y.keys.length kd)/\w'.cell? ⟨bx,4,none⟩=some (.slice lb y.l.length ld)):=
  fun w' e=>⟨e.cell (ag.cells 4),e.cell (dU.cells 0),e.cell (dU.cells 1),e.cell (dU.cells 2),e.cell (dU.cells 3),e.cell (dU.cells 4)⟩
 clear dU;refine fN au (c:=8) (by kernel_rfl) ?_;refine aH 0 [8] (hS:=au _ Xt) (h:= ?_);refine aH 1 [8] (hS:=au _ Xt) (h:= ?_);refine aH 3 [8] (hS:=au _ Xt) (h:= ?_);refine aH 4 [8] (hS:=au _ Xt) (h:= ?_);(try simp only [rl]);refine mQ (rs:= [2,5]) (by kernel_rfl) (by simp) ?_;refine cT.cons (Array.getElem?_eq_getElem (by decide)) (fun K hK=> ?_) (cT.cons (Array.getElem?_eq_getElem (by decide)) (fun K hK=> ?_) cT.nil)
 · (try simp only [rl])
   (try go_simp);(refine(Cl.out _ Xt).mono ?_);rintro e w2 ⟨a2,c2,rfl,-,hown2,h2⟩;(try go_simp);have hb2:Ext wb w2:=Xt;have hz2:=hb2.size;have dV:Hid (∀g,(Value.slice a2 x.l.length c2).ownBlock=some g->wb.heap.size<=g/\g<w2.heap.size):=fun g hg=>hown2.lt g hg;have lj:=ae (qd (b0:=w.heap.size+2) hown2 (by(try simp);omega));clear hown2 h2;refine hK.out _ _ (fun _=>au _ Xt) ?_;clear hK K;(try simp only [rl]);refine aM 5 (h:=fun K hK=> ?_);(try simp only [rl]);go_simp;refine hK.out _ _ (fun _=>au _ Xt) ?_;clear hK K;(try simp only [rl]);refine aM 6 (h:=fun K hK=> ?_);(try simp only [rl]);(try go_simp);(refine(rf (w.heap.size+2) x.l.length p _ _ (.slice a2 x.l.length c2) news (y.five kb kd lb ld) _ 41 ?_ ?_ (by omega) hp ?_ ?_ rfl lh.out (y.mR kb kd lb ld)).mono ?_);(focus(first|(simp;omega)|omega));(focus(exact eT lj.out Xt));(focus(exact aj));(focus(intro h;have h':=(dV.out _ h).2;(first|omega|(simp at h';omega)|(simp at h';done))));rintro e w6 ⟨g6,bA,rfl,bF,aY,cp⟩;have bS:Ext wb w6:=Ext.grown Xt aY (fun g hg=>(dV.out g hg).1);(try go_simp);refine hK.out _ _ (fun _=>au _ bS) ?_;clear hK K;(try simp only [rl]);refine aH 7 [8] (hS:=au _ Xt) (h:= ?_);(try simp only [rl]);have xZ:=af.ext bS ag;have x8:=af.ext bS ai;have cX:Ext w w6:=aP.trans bS;have hcc:=(kJ.out.keep (cX.kept _) (fun b h _=>h)).ins p (aV.out.ext cX);obtain⟨g7,cur,kK,hgb,hBg,hcz,hits⟩:=qg (Nat.succ_pos x.l.length) (by simp;omega) bF hcc;have gT:aO (some (⟨g6,0,none⟩:Addr)) (x.l.length+1) bA:=by obtain⟨a4,c4,cU,h⟩:=gU bF;simp only [Value.slice.injEq,true_and] at cU;obtain⟨rfl,rfl⟩:=cU;exact h
   simp only [Option.some.injEq,Addr.mk.injEq,and_true] at kK;obtain rfl:=kK;have gp:=ae hits;clear bF aY cp hcc hits hBg au ag ai bS;obtain⟨hc0,aw,hl0⟩:=xZ.see;refine aM 8 (h:=fun K hK=> ?_);(try simp only [rl]);go_simp;refine bD hK (h:= ?_);clear hK K;(try simp only [rl]);refine dE (by kernel_rfl) ?_ _;go_upto_region 8 with fail
   refine aI (R:=fun wy=>af wy w.heap.size #[.int .i64 x.k, .int .i64 x.n, .string x.s, .slice ka x.keys.length kc, .slice (some ⟨g6,0,none⟩) (x.l.length+1) bA] 41/\aN wy (w.heap.size+1)/\Held (fun b=>b≠w.heap.size) w6 wy/\Ext w wy) ⟨aj,aj,aC,Xt⟩ ?_;clear xZ x8 hc0 aw hl0;rintro wy ⟨ag,ai,mf,hxy⟩;obtain⟨hc0,aw,hl0⟩:=ag.see;obtain⟨hc1,aB,az⟩:=ai.see;go_wp2_with fail;refine aG (h:= ?_);have e2:(x.l.take p++y::x.l.drop p).length=x.l.length+1:=by simp;omega
   refine⟨ka,kc,some ⟨g6,0,none⟩,bA,?_,(V.dD ..).2 ⟨ib,?_,aQ.out.keep (Ext.kept Xt _) (fun b h _=> .inl h), .inr ⟨g6,0,rfl, .inr (by omega),fun i hi=> ?_⟩⟩,Xt⟩
   ·simp only [V.val,V.nT,V.gi,V.ej,V.uE,V.uF,V.kH,e2]
   ·simp only [V.nT,V.ej,e2];exact gT
   ·rw [Nat.zero_add]
    have h1:Held (fun b=>b≠w.heap.size/\b≠w.heap.size+1) w6 wy:=mf.mono (fun b h=>h.1);exact((gp.out i hi).keep' (T:=fun b=>b≠w.heap.size/\b≠w.heap.size+1) (by simp;omega) (Held.kept (a:=w6) aC) (fun b h=>by have:=fM.out b h;simp;omega)).mono (fun b h=> .inl h)
 · (try simp only [rl])
   go_simp;refine hK.out _ _ (fun _=>au _ Xt) ?_;clear hK K;(try simp only [rl]);refine aM 2 (h:=fun K hK=> ?_);(try simp only [rl]);(try go_simp);(refine(Cl.out _ Xt).mono ?_);rintro e w2 ⟨a2,c2,rfl,-,hown2,h2⟩;(try go_simp);have hb2:Ext wb w2:=Xt;have hz2:=hb2.size;have hBn:af w2 wb.heap.size (y.five kb kd lb ld).toArray 41:=af.ext h2 aj;have dV:Hid (∀g,(Value.slice a2 x.l.length c2).ownBlock=some g->wb.heap.size<=g/\wb.heap.size<g):=fun g hg=>by have:=(hown2.lt g hg).1;simp at this;omega
   have lj:=ae (qd (b0:=w.heap.size+2) hown2 (by(try simp);omega));clear hown2 h2;refine hK.out _ _ (fun _=>au _ Xt) ?_;clear hK K;(try simp only [rl]);refine aM 6 (h:=fun K hK=> ?_);(try simp only [rl]);(try go_simp);(refine(rf (w.heap.size+2) x.l.length p _ _ (.slice a2 x.l.length c2) news (y.five kb kd lb ld) _ 41 ?_ ?_ (by omega) hp ?_ ?_ rfl lh.out (y.mR kb kd lb ld)).mono ?_);(focus(first|(simp;omega)|omega));(focus(exact eT lj.out Xt));(focus(exact aj));(focus(intro h;have h':=(dV.out _ h).2;(first|omega|(simp at h';omega)|(simp at h';done))));rintro e w6 ⟨g6,bA,rfl,bF,aY,cp⟩;have bS:Ext wb w6:=Ext.grown Xt aY (fun g hg=>(dV.out g hg).1);(try go_simp);refine hK.out _ _ (fun _=>au _ bS) ?_;clear hK K;(try simp only [rl]);refine aH 7 [8] (hS:=au _ Xt) (h:= ?_);(try simp only [rl]);have xZ:=af.ext bS ag;have x8:=af.ext bS ai;have cX:Ext w w6:=aP.trans bS;have hcc:=(kJ.out.keep (cX.kept _) (fun b h _=>h)).ins p (aV.out.ext cX);obtain⟨g7,cur,kK,hgb,hBg,hcz,hits⟩:=qg (Nat.succ_pos x.l.length) (by simp;omega) bF hcc;have gT:aO (some (⟨g6,0,none⟩:Addr)) (x.l.length+1) bA:=by obtain⟨a4,c4,cU,h⟩:=gU bF;simp only [Value.slice.injEq,true_and] at cU;obtain⟨rfl,rfl⟩:=cU;exact h
   simp only [Option.some.injEq,Addr.mk.injEq,and_true] at kK;obtain rfl:=kK;have gp:=ae hits;clear bF aY cp hcc hits hBg au ag ai bS;obtain⟨hc0,aw,hl0⟩:=xZ.see;refine aM 8 (h:=fun K hK=> ?_);(try simp only [rl]);go_simp;refine bD hK (h:= ?_);clear hK K;(try simp only [rl]);refine dE (by kernel_rfl) ?_ _;go_upto_region 8 with fail
   refine aI (R:=fun wy=>af wy w.heap.size #[.int .i64 x.k, .int .i64 x.n, .string x.s, .slice ka x.keys.length kc, .slice (some ⟨g6,0,none⟩) (x.l.length+1) bA] 41/\aN wy (w.heap.size+1)/\Held (fun b=>b≠w.heap.size) w6 wy/\Ext w wy) ⟨aj,aj,aC,Xt⟩ ?_;clear xZ x8 hc0 aw hl0;rintro wy ⟨ag,ai,mf,hxy⟩;obtain⟨hc0,aw,hl0⟩:=ag.see;obtain⟨hc1,aB,az⟩:=ai.see;go_wp2_with fail;refine aG (h:= ?_);have e2:(x.l.take p++y::x.l.drop p).length=x.l.length+1:=by simp;omega
   refine⟨ka,kc,some ⟨g6,0,none⟩,bA,?_,(V.dD ..).2 ⟨ib,?_,aQ.out.keep (Ext.kept Xt _) (fun b h _=> .inl h), .inr ⟨g6,0,rfl, .inr (by omega),fun i hi=> ?_⟩⟩,Xt⟩
   ·simp only [V.val,V.nT,V.gi,V.ej,V.uE,V.uF,V.kH,e2]
   ·simp only [V.nT,V.ej,e2];exact gT
   ·rw [Nat.zero_add]
    have h1:Held (fun b=>b≠w.heap.size/\b≠w.heap.size+1) w6 wy:=mf.mono (fun b h=>h.1);exact((gp.out i hi).keep' (T:=fun b=>b≠w.heap.size/\b≠w.heap.size+1) (by simp;omega) (Held.kept (a:=w6) aC) (fun b h=>by have:=fM.out b h;simp;omega)).mono (fun b h=> .inl h)
theorem Jb (y:V) (kb:aq) (kd:Nat) (lb:aq) (ld:Nat) (bx:Nat) (S:aA) (w0:World) (hS:∀b,S b->b<w0.heap.size) (dN:aD w0 bx y kb kd lb ld) (hjn:y.In w0 S kb kd lb ld) (hl:cZ w0):
 Does (jn y) S 158 #[.pointer (some ⟨bx,0,none⟩)] w0:=by
 intro x ka kc la lc name w' hw cS hsz hn hin;have fM:∀b,S b->b<w'.heap.size:=fun b h=>Nat.lt_of_lt_of_le (hS b h) hw.size;show Calls prog 158 #[x.val ka kc la lc, .string name, .pointer (some ⟨bx,0,none⟩)] w' (eY S (jn y x name).1 (.int .i64 (jn y x name).2) w');unfold jn;by_cases h5:x.k=5
 ·simp only [if_pos h5]
  exact WJ y kb kd lb ld bx x ka kc la lc name S w' fM (af.ext hw dN) (hjn.ext hw) cS hsz hn hin h5
 ·simp only [if_neg h5]
  by_cases h4:x.k=4
  ·simp only [if_pos h4]
   cases hi:jF name x.l.length with
   |none=>exact Je bx x ka kc la lc name S w' (hl.ext hw) hsz hn hin h5 (.inr (fun i h=>by rw [hi] at h;cases h))
   |some p=>
    simp only;by_cases hp:p<=x.l.length
    ·simp only [if_pos hp]
     exact WL y kb kd lb ld bx x ka kc la lc name S w' fM (af.ext hw dN) (hjn.ext hw) (hl.ext hw) hsz hn hin h4 p hi hp
    ·simp only [if_neg hp]
     exact Je bx x ka kc la lc name S w' (hl.ext hw) hsz hn hin h5 (.inr (fun i h=>by rw [hi] at h;cases h;omega))
  ·simp only [if_neg h4]
   exact Je bx x ka kc la lc name S w' (hl.ext hw) hsz hn hin h5 (.inl h4)
theorem Ja (args:Array Value) (w:World):(callFunc 158 args).run prog w= .ok (.enter 158 args) w:=enters func158 (by kernel_rfl) (by rfl) args w
def Ta (r:Nat) (t:Bytes) (w:World) (e:Ending) (w':World):Prop:=
 Rd r w w'/\∃(b s':ah) (gy:Bool),e= .returned (.string b)/\b.size<=61/\Sr w' r s' gy/\ ((gy=false/\eA (t.length+1) t []=some (b.data.toList,s'.data.toList))\/ (gy=true/\s'.data.toList= []/\eA (t.length+1) t []=none))
theorem Rd.grown {r:Nat} {a b c:World} (h:Rd r a b) {row:Option Nat} (g:b.grownBy c row) (hr:∀k,row=some k->a.heap.size<=k) (qL:r<a.heap.size):Rd r a c:=by
 refine⟨Below.grown h.below g (by have:=h.size;omega) (fun k hk=>by have:=hr k hk;omega),⟨Nat.le_trans h.size g.size,fun k hk hl=> ?_⟩⟩;rw [g.block k (Nat.lt_of_lt_of_le hl h.size) (fun e=>by have:=hr k e.symm;omega)];exact h.held.block k hk hl
theorem dt.rd {r B:Nat} {w w':World} {v:Value} {l:Bytes} (e:Rd r w w') (hB:r<B) (h:dt w B v l):dt w' B v l:=
 eo h (fun b hb hg=>e.held.block b (by have:=(h.lt b hg).1;omega) hb)
def Bn (R:Option (Bytes×Bytes)) (s:ah) (bad:Bool) (bs:Bytes):Prop:=
 (bad=true->s.data.toList= [])/\ ((bad=false/\eA (s.size+1) s.data.toList bs=R)\/ (bad=true/\R=none))
theorem acn {R:Option (Bytes×Bytes)} {s:ah} {bs:Bytes} (h:Bn R s false bs) (hb:(gw s.data.toList).toNat<32\/127<= (gw s.data.toList).toNat\/60<bs.length):R=none:=by
 rcases h.2 with⟨-,h⟩|⟨h,-⟩
 ·rw [<-h]
  cases hq:s.data.toList with
  |nil=>rfl
  |cons c t=>
   rw [hq] at hb;have hb:c.toNat<32\/127<=c.toNat\/60<bs.length:=hb;rw [eA,if_pos hb]
 ·cases h
theorem aco {R:Option (Bytes×Bytes)} {s u:ah} {bs:Bytes} (h:Bn R s false bs) {c:UInt8} (hc:s.data.toList=c::u.data.toList) (hb:¬(c.toNat<32\/127<=c.toNat\/60<bs.length)):
 R=if c=34 then some (bs,u.data.toList) else if c=92 then(jv u.data.toList).bind fun p=>eA s.size p.2 (bs++ [p.1]) else eA s.size u.data.toList (bs++ [c]):=by
 rcases h.2 with⟨-,h⟩|⟨h,-⟩
 ·rw [<-h,hc,eA,if_neg hb]
 ·cases h
theorem acp {s u:ah} {c:UInt8} (hc:s.data.toList=c::u.data.toList):s.size=u.size+1:=by
 have h1:s.data.toList.length=s.size:=Array.length_toList;have h2:u.data.toList.length=u.size:=Array.length_toList;rw [hc,List.length_cons,h2] at h1;exact h1.symm
theorem Tb (r:Nat) (s:ah) (t:Bytes) (hs:s.data.toList=34::t) (hsz:s.size<=1048576) (w:World) (hr:Sr w r s false):
 Calls prog 107 #[.pointer (some ⟨r,0,none⟩)] w (Ta r t w):=by
 have hlt:=hr.lt;obtain⟨R,hR⟩:∃R,eA (t.length+1) t []=R:=⟨_,rfl⟩;unfold Ta;rw [hR];have Hs:=ae hs;have HR:=ae hR;clear hs hR;go_enter func107,ntmps107;go_wp2_with fail;(refine(xg r s false ⟨#[34]⟩ _ hr).mono ?_);rintro e w1 ⟨rfl,h1,(⟨hp,s1,hs1,hr1⟩|⟨hp,hr1⟩)⟩
 rotate_left
 ·rw [Hs.out] at hp;simp [List.isPrefixOf] at hp
 have hst:s1.data.toList=t:=by rw [hs1,Hs.out];rfl
 have az:t.length=s1.size:=by rw [<-hst];exact Array.length_toList
 have hl0:s.size=t.length+1:=by have:s.data.toList.length=s.size:=Array.length_toList;rw [Hs.out] at this;exact this.symm
 have hti:Bn R s1 false []:=⟨(fun h=>by cases h), .inl ⟨rfl,by rw [hst,<-az,HR.out]⟩⟩;have qM:=ae hti;have qN:s1.size<=1048576:=by omega
 have hown0:=ae (dt.nil w1 w.heap.size);clear hp hs1 hst hti hl0 az;go_wp2_with fail
 go_loopg [3,4] s1.size (fun g t3 _ wr=>∃(s2:ah) (bad:Bool) (bs:Bytes) (a0:aq) (c0:Nat),t3= .slice a0 bs.length c0/\Sr wr r s2 bad/\dt wr w.heap.size (.slice a0 bs.length c0) bs/\bs.length<=61/\g=s2.size/\s2.size<=1048576/\Rd r w wr/\Bn R s2 bad bs)
 case atStart=>exact⟨s1,false, [],none,0,rfl,hr1,hown0.out,by simp,rfl,qN,h1,qM.out⟩
 case round=>
  clear hr1 h1 qM qN hown0 hr;obtain⟨s2,bad,bs,a0,c0,rfl,hr2,hown,hbl,rfl,rb,hx,hti⟩:=hrel;have ck:=ae hown;have qM:=ae hti;have HX:=ae (show∀g,(Value.slice a0 bs.length c0).ownBlock=some g->w.heap.size<=g from fun g hg=>(hown.lt g hg).1);have Tc:=ae (show some r≠(Value.slice a0 bs.length c0).ownBlock from fun h=>by have:=HX.out r h.symm;omega);have hxs:=hx.size;clear hown hti;have hcr:=hr2.cells;have ov:=hr2.free;have hlr:=hr2.lt
  cases bad with
  |true=>
   have bp:=ae (show R=none from by rcases qM.out.2 with⟨h,-⟩|⟨-,h⟩;cases h;exact h);have acr:=ae (qM.out.1 rfl);go_wp2_with fail;refine aG (h:= ?_);rw [bp.out];exact⟨hx,⟨#[]⟩,s2,true,rfl,by decide,hr2, .inr ⟨rfl,acr.out,rfl⟩⟩
  |false=>
   obtain⟨c,hc⟩:∃c,gw s2.data.toList=c:=⟨_,rfl⟩;have Hc:=ae hc;clear hc;by_cases hbad:(c.toNat:Int)<32\/127<= (c.toNat:Int)\/60<(bs.length:Int)
   ·have bp:=ae (acn qM.out (by rw [Hc.out];omega))
    by_cases q1:(c.toNat:Int)<32
    ·have Bo:decide ((c.toNat:Int)<32)=true:=by simpa using q1
     clear hbad;go_wp2_with fail;(refine(lX r s2 false _ hr2).mono ?_);rintro e w3 ⟨rfl,rfl⟩;rw [Hc.out];go_wp2_with fail;(refine(dG r s2 false _ hr2).mono ?_);rintro e w4 ⟨rfl,hr4,h4⟩;have h5:=hx.trans h4;go_wp2_with fail;refine aG (h:= ?_);rw [bp.out];exact⟨h5,⟨#[]⟩,⟨#[]⟩,true,rfl,by decide,hr4, .inr ⟨rfl,rfl,rfl⟩⟩
    ·have Bo:decide ((c.toNat:Int)<32)=false:=by simpa using q1
     by_cases q2:127<= (c.toNat:Int)
     ·have Td:decide (127<= (c.toNat:Int))=true:=by simpa using q2
      clear hbad;go_wp2_with fail;(refine(lX r s2 false _ hr2).mono ?_);rintro e w3 ⟨rfl,rfl⟩;rw [Hc.out];go_wp2_with fail;(refine(dG r s2 false _ hr2).mono ?_);rintro e w4 ⟨rfl,hr4,h4⟩;have h5:=hx.trans h4;go_wp2_with fail;refine aG (h:= ?_);rw [bp.out];exact⟨h5,⟨#[]⟩,⟨#[]⟩,true,rfl,by decide,hr4, .inr ⟨rfl,rfl,rfl⟩⟩
     ·have Td:decide (127<= (c.toNat:Int))=false:=by simpa using q2
      have q3:60<bs.length:=by omega
      have q3i:(60:Int)<(bs.length:Int):=by omega
      clear hbad;go_wp2_with fail;(refine(lX r s2 false _ hr2).mono ?_);rintro e w3 ⟨rfl,rfl⟩;rw [Hc.out];go_wp2_with fail;(refine(dG r s2 false _ hr2).mono ?_);rintro e w4 ⟨rfl,hr4,h4⟩;have h5:=hx.trans h4;go_wp2_with fail;refine aG (h:= ?_);rw [bp.out];exact⟨h5,⟨#[]⟩,⟨#[]⟩,true,rfl,by decide,hr4, .inr ⟨rfl,rfl,rfl⟩⟩
   ·have q1:¬(c.toNat:Int)<32:=by omega
    have q2:¬127<= (c.toNat:Int):=by omega
    have q3:¬60<bs.length:=by omega
    have q3i:¬(60:Int)<(bs.length:Int):=by omega
    have Bo:decide ((c.toNat:Int)<32)=false:=by simpa using q1
    have Td:decide (127<= (c.toNat:Int))=false:=by simpa using q2
    have hne:s2.data.toList≠ []:=fun h=>by have:=Hc.out;rw [h] at this;rw [<-this] at q1;exact q1 (by decide)
    have HY:s2.data.toList.length=s2.size:=Array.length_toList;have hpos:1<=s2.size:=by rw [<-HY];exact List.length_pos_iff.2 hne
    have ace:(1:Int)<= (s2.size:Int):=by omega
    obtain⟨u,hu⟩:∃u,s2.extract 1 s2.size=u:=⟨_,rfl⟩;have Bl:u.data.toList=s2.data.toList.drop 1:=by rw [<-hu];exact se s2 1
    have qK:s2.data.toList=c::u.data.toList:=by
     rw [Bl];have:=Hc.out
     cases hq:s2.data.toList with
     |nil=>exact absurd hq hne
     |cons d t=>rw [hq] at this;simp only [gw,List.headD_cons] at this;rw [this];rfl
    have DV:=ae (acp qK);have aQ:=ae (aco qM.out qK (by omega));clear hbad hne HY Bl qK;have hR:Rd r w (wr.setCell ⟨r,0,none⟩ (.string u)):=hx.set _ _;have pE:Sr (wr.setCell ⟨r,0,none⟩ (.string u)) r u false:=aj;have Te:dt (wr.setCell ⟨r,0,none⟩ (.string u)) w.heap.size (.slice a0 bs.length c0) bs:=dt.rd ((Rd.refl r wr).set _ _) hlt ck.out;have Mr:=ae Te;clear Te;by_cases Ms:(c.toNat:Int)=34
    ·have lW:c=34:=by apply UInt8.toNat_inj.1;simpa using (by omega:c.toNat=34)
     have lF:=ae (show R=some (bs,u.data.toList) by have:=aQ.out;rw [if_pos lW] at this;exact this);have hcv:=SI Mr.out;have acs:((c.toNat:Int)==34)=true:=by simpa using Ms
     clear lW aQ;go_wp2_with fail;(refine(lX r s2 false _ hr2).mono ?_);rintro e w3 ⟨rfl,rfl⟩;rw [Hc.out];go_wp2_with fail;refine aG (h:= ?_);rw [lF.out];exact⟨hR,⟨bs.toArray⟩,u,false,rfl,by simpa [ByteArray.size] using hbl,pE, .inl ⟨rfl,by simp⟩⟩
    ·have lW:c≠34:=fun h=>Ms (by rw [h];rfl)
     have acs:((c.toNat:Int)==34)=false:=by simpa using Ms
     have Mm:u.size<=1048576:=by have:=DV.out;omega
     go_wp2_with fail;(refine(lX r s2 false _ hr2).mono ?_);rintro e w3 ⟨rfl,rfl⟩;rw [Hc.out];go_upto_region 9 with fail
     refine aI (R:=fun wx=>Sr wx r u false/\dt wx w.heap.size (.slice a0 bs.length c0) bs/\Rd r w wx) ⟨pE,Mr.out,hR⟩ ?_;clear pE Mr hR hx ck hr2 hcr ov hlr hxs;rintro wz ⟨lJ,Tf,br⟩;have Tg:=ae Tf;have cx:=br.size;clear Tf;by_cases DW:(c.toNat:Int)=92
     ·have r9:c=92:=by apply UInt8.toNat_inj.1;simpa using (by omega:c.toNat=92)
      have acu:((c.toNat:Int)==92)=true:=by simpa using DW
      have pB:=ae (show R=(jv u.data.toList).bind fun p=>eA s2.size p.2 (bs++ [p.1]) by have:=aQ.out;rw [if_neg lW,if_pos r9] at this;exact this);have H92:=ae DW;clear r9 lW aQ DW;go_wp2_with fail;(refine(acb r u Mm _ lJ).mono ?_);rintro e w5 ⟨h5,m,u2,Mt,rfl,vC,dF⟩;have bG:=br.trans h5;have iR:=ae (dt.rd h5 hlt Tg.out);have Mu:u2.data.toList.length=u2.size:=Array.length_toList;have acv:u.data.toList.length=u.size:=Array.length_toList;have htx:u2.size<s2.size/\Bn R u2 Mt (bs++ [m]):=by
       rcases dF with⟨rfl,he⟩|⟨rfl,h0,he⟩
       ·have h1:=Gg he
        simp only at h1;have h2:=DV.out;refine⟨by omega,(fun h=>by cases h), .inl ⟨rfl,?_⟩⟩;rw [pB.out,he];exact KZ _ _ _ _ (by omega) (by omega)
       ·have h2:=DV.out
        rw [h0] at Mu;refine⟨by simp at Mu;omega,fun _=>h0, .inr ⟨rfl,?_⟩⟩;rw [pB.out,he];rfl
      obtain⟨dH,htx⟩:=htx;have mv:=ae htx;clear dF htx Mu acv lJ br;go_wp2_with (at_builtin;refine nU (by rfl) _ _ _ (by rfl) (by rfl) w.heap.size (.slice a0 bs.length c0) bs (by rfl) (iR.out.ext Xt) ⟨(w5).heap.size,0,none⟩ 1 1 [m] (by rfl) (by rfl) (World.news_of_block (cs:= #[.int .u8 (m).toNat]) (t:=5) (fr:=(0,0)) (heap_alloc_new w5 _)) (by omega) (by have:=Rd.size bG;simp;omega) ?_;intro v7 w7 zl zm;have jB:Sr w7 r u2 Mt:=af.grown (af.alloc vC _) zm Tc.out;have bR:Rd r w w7:=Rd.grown (Rd.ext bG hlt Xt) zm (fun g hg=>(HX.out g hg)) hlt;obtain⟨a7,c7,rfl,-⟩:=zl.form;have Mv:=ae zl;clear zl zm);go_roundg u2.size
      case measure=>exact dH
      case rel=>exact⟨u2,Mt,bs++ [m],a7,c7,by simp,jB,Mv.out,by simp;omega,rfl,by omega,bR,mv.out⟩
     ·have r9:c≠92:=fun h=>DW (by rw [h];rfl)
      have acu:((c.toNat:Int)==92)=false:=by simpa using DW
      have htx:Bn R u false (bs++ [c]):=by have h1:=aQ.out;rw [if_neg lW,if_neg r9] at h1;exact⟨(fun h=>by cases h), .inl ⟨rfl,by rw [h1,DV.out]⟩⟩
      have mv:=ae htx;clear htx lW r9;go_wp2_with (at_builtin;refine nU (by rfl) _ _ _ (by rfl) (by rfl) w.heap.size (.slice a0 bs.length c0) bs (by rfl) (Tg.out.ext Xt) ⟨(wz).heap.size,0,none⟩ 1 1 [c] (by rfl) (by rfl) (World.news_of_block (cs:= #[.int .u8 (c).toNat]) (t:=5) (fr:=(0,0)) (heap_alloc_new wz _)) (by omega) (by have:=Rd.size br;simp;omega) ?_;intro v7 w7 zl zm;have jB:Sr w7 r u false:=af.grown (af.alloc lJ _) zm Tc.out;have bR:Rd r w w7:=Rd.grown (Rd.ext br hlt Xt) zm (fun g hg=>(HX.out g hg)) hlt;obtain⟨a7,c7,rfl,-⟩:=zl.form;have Mv:=ae zl;clear zl zm);go_roundg u.size
      case measure=>have:=DV.out;omega
      case rel=>exact⟨u,false,bs++ [c],a7,c7,by simp,jB,Mv.out,by simp;omega,rfl,Mm,bR,mv.out⟩
end Go.Proofs.YtlcebdaghmdkeaaGreatDoor
