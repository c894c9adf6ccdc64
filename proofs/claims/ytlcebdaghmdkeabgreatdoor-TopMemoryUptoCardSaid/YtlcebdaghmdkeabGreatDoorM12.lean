import Derived.Test.YtlcebdaghmdkeabGreatDoorM7
set_option linter.all false
set_option maxRecDepth 100000
set_option maxHeartbeats 64000000
namespace Go.Proofs.YtlcebdaghmdkeabGreatDoor
open Go.Proofs.Tryz
open Go.RowKit
attribute [local go_sem↓] Go.wp_at_zero Go.wp_at_succ
theorem Lr (x:V) (ka:aq) (kc:Nat) (la:aq) (lc:Nat) (S:aw) (key:ah) (w:World) (hsz:x.size<=1073741824) (hin:x.In w S ka kc la lc):
 Calls prog 187 #[x.val ka kc la lc, .string key] w fun e w'=>e= .returned (.tuple #[.string (x.txt key).1, .bool (x.txt key).2])/\Ext w w':=by
 have aH:=ae hin;unfold V.txt;obtain⟨z,hz⟩:∃z,x.ik key=z:=⟨_,rfl⟩;obtain⟨b3,hb3⟩:∃b,(z.k==3)=b:=⟨_,rfl⟩;have Hz:=ae hz;rw [hz,hb3];clear hin hz
 cases hm:(x.member key).isSome with
 |true=>
  have Hm:=ae hm;clear hm;go_enter func187,ntmps187;go_upto_region 1 with fail
  refine aI (R:=fun wx=>aC wx w.heap.size x ka kc la lc/\Ext w wx) ⟨aj,Xt⟩ ?_;rintro wa ⟨ag,aD⟩;obtain⟨hc0,ax,hl0⟩:=ag.see;go_wp2_with fail;(refine(pP x key ka kc la lc S _ hsz (aH.out.ext Xt)).mono ?_);rw [Hz.out,Hm.out];rintro e w1 ⟨iH,iI,iJ,iK,rfl,fc,h1⟩;have hx1:Ext w w1:=Xt;clear h1 fc ag hc0 ax hl0 aD;go_upto_region 2 with fail
  refine aI (R:=fun wx=>aC wx w1.heap.size z iH iI iJ iK/\Ext w wx) ⟨aj,Xt⟩ ?_;clear hx1;rintro wb ⟨hB,hx⟩;have au:∀w',Ext wb w'-> (w'.cell? ⟨w1.heap.size,0,none⟩=some (.int .i64 z.k)/\w'.cell? ⟨w1.heap.size,2,none⟩=some (.string z.s)):=fun w' e=>⟨e.cell (hB.cells 0),e.cell (hB.cells 2)⟩;refine nt au (by kernel_rfl) (au _ Xt) (fun hHeld=> ?_);refine aJ 0 (h:= ?_);refine aJ 1 (h:= ?_);refine aJ 2 (h:= ?_);refine aJ 3 (h:= ?_);refine aJ 4 (h:= ?_);refine aJ 5 (h:= ?_);refine aJ 6 (h:= ?_);refine aJ 7 (h:= ?_);refine aJ 8 (h:= ?_);refine aJ 9 (h:= ?_);(try simp only [rl]);refine wpAnyH_done (by kernel_rfl) ?_ _;go_wp2_with fail;go_ret2;exact⟨rfl,Xt⟩
 |false=>
  have Hm:=ae hm;clear hm;go_enter func187,ntmps187;go_upto_region 1 with fail
  refine aI (R:=fun wx=>aC wx w.heap.size x ka kc la lc/\Ext w wx) ⟨aj,Xt⟩ ?_;rintro wa ⟨ag,aD⟩;obtain⟨hc0,ax,hl0⟩:=ag.see;go_wp2_with fail;(refine(pP x key ka kc la lc S _ hsz (aH.out.ext Xt)).mono ?_);rw [Hz.out,Hm.out];rintro e w1 ⟨iH,iI,iJ,iK,rfl,fc,h1⟩;have hx1:Ext w w1:=Xt;clear h1 fc ag hc0 ax hl0 aD;go_upto_region 2 with fail
  refine aI (R:=fun wx=>aC wx w1.heap.size z iH iI iJ iK/\Ext w wx) ⟨aj,Xt⟩ ?_;clear hx1;rintro wb ⟨hB,hx⟩;have au:∀w',Ext wb w'-> (w'.cell? ⟨w1.heap.size,0,none⟩=some (.int .i64 z.k)/\w'.cell? ⟨w1.heap.size,2,none⟩=some (.string z.s)):=fun w' e=>⟨e.cell (hB.cells 0),e.cell (hB.cells 2)⟩;refine nt au (by kernel_rfl) (au _ Xt) (fun hHeld=> ?_);refine aJ 0 (h:= ?_);refine aJ 1 (h:= ?_);refine aJ 2 (h:= ?_);refine aJ 3 (h:= ?_);refine cJ 4 (h:= ?_);refine cJ 5 (h:= ?_);refine cJ 6 (h:= ?_);refine aJ 7 (h:= ?_);refine aJ 8 (h:= ?_);refine aJ 9 (h:= ?_);(try simp only [rl]);refine wpAnyH_done (by kernel_rfl) ?_ _;go_wp2_with fail;go_ret2;exact⟨rfl,Xt⟩
def qJ (w:World):Prop:=∀i,i<7->w.cell? ⟨1,i,none⟩=some (.string (pN i))
theorem qJ.ext {w w':World} (h:qJ w) (e:Ext w w'):qJ w':=fun i hi=>e.cell (h i hi)
def abY (S:aw) (x:V) (w:World) (e:Ending) (w':World):Prop:=
 ∃(o:bE) (ka:aq) (kc:Nat) (la:aq) (lc:Nat) (b:Bool),e= .returned (.tuple #[.agg #[.int .i64 o.k, .string o.p, .string o.f, .int .i64 (o.v).k, .int .i64 (o.v).n, .string (o.v).s, .slice ka (o.v).keys.length kc, .slice la (o.v).l.length lc], .bool b])/\o.v.In w' (aU S w) ka kc la lc/\x.iF=(if b=true then some o else none)/\Ext w w'
theorem abZ {s:ah} {k:Nat} (hk:1<=k) (h:pN k=s):nO s true (k+1)=k:=by unfold nO;rw [if_pos ⟨hk,rfl,h⟩]
theorem R6 {s:ah} {ok:Bool} {k:Nat} (h:ok=false\/pN k≠s):nO s ok (k+1)=nO s ok k:=by
 rw [nO,if_neg];rintro⟨_,h1,h2⟩;rcases h with h|h
 ·rw [h] at h1;cases h1
 ·exact h h2
section
variable {x:V}
theorem ab0 (h:x.kd=0):x.iF=none:=by unfold V.iF;rw [if_pos h]
theorem ab1 (h:x.kd≠0) (hp:(x.txt mL).2=false):x.iF=none:=by unfold V.iF;rw [if_neg h,if_pos hp]
theorem ab2 (h:x.kd=1\/x.kd=3\/x.kd=6) (hp:(x.txt mL).2=true):x.iF=if(x.member wJ).isSome=true then some ⟨x.kd,(x.txt mL).1,⟨#[]⟩,x.ik wJ⟩ else none:=by
 unfold V.iF;rw [if_neg (by omega),if_neg (by rw [hp];decide),if_pos h]
theorem ab3 (h:x.kd=4\/x.kd=5) (hp:(x.txt mL).2=true):x.iF=if(x.txt uI).2=true then some ⟨x.kd,(x.txt mL).1,(x.txt uI).1,V.zero⟩ else none:=by
 unfold V.iF;rw [if_neg (by omega),if_neg (by rw [hp];decide),if_neg (by omega),if_pos h]
theorem ab4 (h:x.kd=2) (hp:(x.txt mL).2=true):x.iF=some ⟨x.kd,(x.txt mL).1,⟨#[]⟩,V.zero⟩:=by
 unfold V.iF;rw [if_neg (by omega),if_neg (by rw [hp];decide),if_neg (by omega),if_neg (by omega)]
end
theorem ab5 (x:V) (ka:aq) (kc:Nat) (la:aq) (lc:Nat) (S:aw) (w:World) (hsz:x.size<=1073741824) (dZ:qJ w) (hin:x.In w S ka kc la lc):
 Calls prog 145 #[x.val ka kc la lc] w (abY S x w):=by
 obtain⟨SS,bg⟩:∃SS:aw,SS=fun b=>(S b/\b<w.heap.size)\/w.heap.size+3<=b:=⟨_,rfl⟩
 have aH:=ae (show x.In w SS ka kc la lc from hin.mono fun b h hl=>by rw [bg];exact .inl ⟨h,hl⟩);have cd:=ae (show∀b,w.heap.size+3<=b->SS b from fun b h=>by rw [bg];exact .inr h);have cT:=ae (show∀b,SS b->b≠w.heap.size+1/\b≠w.heap.size+2 from fun b h=>by rw [bg] at h;rcases h with h|h<;>omega);have bD:=ae (show∀b,SS b->aU S w b from fun b h=>by rw [bg] at h;exact h.elim (fun h=> .inl h.1) (fun h=> .inr (by omega)));clear bg hin;obtain⟨s,hs⟩:∃s,(x.txt Da).1=s:=⟨_,rfl⟩;obtain⟨ok,hok⟩:∃b,(x.txt Da).2=b:=⟨_,rfl⟩;obtain⟨p,hp⟩:∃p,(x.txt mL).1=p:=⟨_,rfl⟩;obtain⟨okp,R7⟩:∃b,(x.txt mL).2=b:=⟨_,rfl⟩;have Hs:=ae hs;have eK:=ae hok;have Hp:=ae hp;have Db:=ae R7;have Lq:=ae (show x.kd=nO s ok 7 by unfold V.kd;rw [hs,hok]);have iO:=ae dZ;clear hs hok hp R7 dZ;go_enter func145,ntmps145;go_upto_region 2 with fail
 refine aI (R:=fun wx=>aC wx w.heap.size x ka kc la lc/\af wx (w.heap.size+1) #[.int .i64 0, .string ⟨#[]⟩, .string ⟨#[]⟩, .int .i64 0, .int .i64 0, .string ⟨#[]⟩, .slice none 0 0, .slice none 0 0] 198/\af wx (w.heap.size+2) #[.int .i64 0, .string ⟨#[]⟩, .string ⟨#[]⟩, .int .i64 0, .int .i64 0, .string ⟨#[]⟩, .slice none 0 0, .slice none 0 0] 198/\Ext w wx) ⟨aj,aj,aj,Xt⟩ ?_;rintro wa ⟨ag,ai,ak,aD⟩;have hz2:=ak.lt;obtain⟨hc0,ax,hl0⟩:=ag.see;go_wp2_with fail;(refine(Lr x ka kc la lc SS Da _ hsz (aH.out.ext Xt)).mono ?_);rw [Hs.out,eK.out];rintro e w1 ⟨rfl,h1⟩;have ag:=af.ext (w':=w1) Xt ag;have ai:=af.ext (w':=w1) Xt ai;have ak:=af.ext (w':=w1) Xt ak;have hx1:Ext w w1:=Xt;clear h1 aD hc0 ax hl0;go_wp2_with fail
 go_loopg [7] 6 (fun g i wr=>∃k:Nat,1<=k/\k<=7/\i= .int .i64 k/\g=7-k/\aC wr w.heap.size x ka kc la lc/\af wr (w.heap.size+1) #[.int .i64 0, .string ⟨#[]⟩, .string ⟨#[]⟩, .int .i64 0, .int .i64 0, .string ⟨#[]⟩, .slice none 0 0, .slice none 0 0] 198/\af wr (w.heap.size+2) #[.int .i64 (nO s ok k), .string ⟨#[]⟩, .string ⟨#[]⟩, .int .i64 0, .int .i64 0, .string ⟨#[]⟩, .slice none 0 0, .slice none 0 0] 198/\Ext w wr)
 case atStart=>exact⟨1,by omega,by omega,rfl,rfl,ag,ai,by rw [ab6];exact ak,hx1⟩
 case round=>
  clear ag ai ak hx1;obtain⟨k,hk1,hk7,rfl,rfl,ag,ai,ak,hx⟩:=hrel;obtain⟨hc2,hf2,hl2⟩:=ak.see;by_cases hlt:k<7
  ·have hle:(k:Int)<=6:=by omega
   have gM:(0:Int)<= (k:Int):=by omega
   have af4:(k:Int)<7:=by omega
   have e0:=hx.cell (iO.out k hlt);obtain⟨nk,qi⟩:∃q,pN k=q:=⟨_,rfl⟩;have C6:=ae qi;rw [qi] at e0;clear qi;by_cases hq:nk=s
   ·have xw:(nk.toList==s.toList)=true:=by rw [hq];simp
    cases ok with
    |true=>
     have Hk:=ae (abZ hk1 (C6.out.trans hq));clear hq;go_wp2_with fail;go_roundg (7-(k+1))
     case measure=>omega
     case rel=>exact⟨k+1,by omega,by omega,by go_num,rfl,aj,aj,by rw [Hk.out];exact aj,Xt⟩
    |false=>
     have Hk:=ae (R6 (s:=s) (ok:=false) (k:=k) (.inl rfl));clear hq;go_wp2_with fail;go_roundg (7-(k+1))
     case measure=>omega
     case rel=>exact⟨k+1,by omega,by omega,by go_num,rfl,aj,aj,by rw [Hk.out];exact aj,Xt⟩
   ·have xw:(nk.toList==s.toList)=false:=by simpa using fun h=>hq (kK h)
    have Hk:=ae (R6 (ok:=ok) (k:=k) (.inr (fun h=>hq (C6.out.symm.trans h))));clear hq;go_wp2_with fail;go_roundg (7-(k+1))
    case measure=>omega
    case rel=>exact⟨k+1,by omega,by omega,by go_num,rfl,aj,aj,by rw [Hk.out];exact aj,Xt⟩
  ·obtain rfl:k=7:=by omega
   rw [<-Lq.out] at ak;obtain⟨kd,zD⟩:∃q,x.kd=q:=⟨_,rfl⟩;have ab7:=ab8 s ok 7;rw [<-Lq.out,zD] at ab7;rw [zD] at ak;have Hq:=ae zD;clear Lq zD hc2 hf2 hl2;obtain⟨hc1,aA,ay⟩:=ai.see;obtain⟨hc2,hf2,hl2⟩:=ak.see;by_cases h0:kd=0
   ·have b0:(kd==0)=true:=by simpa using h0
    have Hr:=ae (ab0 (Hq.out.trans h0));clear h0;go_wp2_with fail;refine aF (h:= ?_);exact⟨⟨kd,⟨#[]⟩,⟨#[]⟩,V.zero⟩,none,0,none,0,false,rfl,V.mY _ _,Hr.out,Xt⟩
   have b0:(kd==0)=false:=by simpa using h0
   have H0:=ae h0;clear h0;obtain⟨hc0,ax,hl0⟩:=ag.see;go_wp2_with fail;(refine(Lr x ka kc la lc SS mL _ hsz (aH.out.ext Xt)).mono ?_);rw [Hp.out,Db.out];rintro e w2 ⟨rfl,h2⟩;have ag:=af.ext (w':=w2) Xt ag;have ai:=af.ext (w':=w2) Xt ai;have ak:=af.ext (w':=w2) Xt ak;have hx2:Ext w w2:=Xt;clear h2 hx hc0 ax hl0 hc1 aA ay hc2 hf2 hl2;obtain⟨hc2,hf2,hl2⟩:=ak.see;go_upto_region 11 with fail
   refine aI (R:=fun wx=>aC wx w.heap.size x ka kc la lc/\af wx (w.heap.size+1) #[.int .i64 0, .string ⟨#[]⟩, .string ⟨#[]⟩, .int .i64 0, .int .i64 0, .string ⟨#[]⟩, .slice none 0 0, .slice none 0 0] 198/\af wx (w.heap.size+2) #[.int .i64 kd, .string p, .string ⟨#[]⟩, .int .i64 0, .int .i64 0, .string ⟨#[]⟩, .slice none 0 0, .slice none 0 0] 198/\Ext w wx) ⟨aj,aj,aj,Xt⟩ ?_;clear ag ai ak hx2 hc2 hf2 hl2;rintro wb ⟨ag,ai,ak,hx⟩;have hz3:=ak.lt;obtain⟨hc0,ax,hl0⟩:=ag.see;obtain⟨hc1,aA,ay⟩:=ai.see;obtain⟨hc2,hf2,hl2⟩:=ak.see
   cases okp with
   |false=>
    have Hr:=ae (ab1 (by rw [Hq.out];exact H0.out) Db.out);go_wp2_with fail;refine aF (h:= ?_);exact⟨⟨kd,p,⟨#[]⟩,V.zero⟩,none,0,none,0,false,rfl,V.mY _ _,Hr.out,Xt⟩
   |true=>
    by_cases hv:kd=1\/kd=3\/kd=6
    ·obtain⟨z,hz⟩:∃z,x.ik wJ=z:=⟨_,rfl⟩
     obtain⟨ms,ur⟩:∃b,(x.member wJ).isSome=b:=⟨_,rfl⟩;have Hr:=ae (show x.iF=if ms=true then some ⟨kd,p,⟨#[]⟩,z⟩ else none by rw [ab2 (by rw [Hq.out];exact hv) Db.out,Hq.out,Hp.out,hz,ur]);have Hz:=ae hz;have tV:=ae ur;clear hz ur;rcases hv with rfl|rfl|rfl
     all_goals
      go_wp2_with fail;(refine(pP x wJ ka kc la lc SS _ hsz (aH.out.ext Xt)).mono ?_);rw [Hz.out,tV.out];rintro e w3 ⟨aX,aY,aZ,bf,rfl,bn,h3⟩;have ai:=af.ext (w':=w3) Xt ai;have ak:=af.ext (w':=w3) Xt ak;have hx3:Ext w w3:=Xt;have bJ:=ae (show z.In w3 SS aX aY aZ bf from bn.mono fun q h _=>h.elim id (fun h=>cd.out q (by(try simp at h);omega)));clear h3 hx bn ag hc0 ax hl0 hc1 aA ay hc2 hf2 hl2;obtain⟨hc1,aA,ay⟩:=ai.see;obtain⟨hc2,hf2,hl2⟩:=ak.see;go_wp2_with fail;refine aF (h:= ?_);exact⟨⟨_,p,⟨#[]⟩,z⟩,aX,aY,aZ,bf,ms,rfl,bJ.out.keep (Held.kept (Held.mono (a:=w3) (S:=fun b=>b≠w.heap.size+1/\b≠w.heap.size+2) aB cT.out)) (fun b hb _=>bD.out b hb),Hr.out,Xt⟩
    ·by_cases hf:kd=4\/kd=5
     ·obtain⟨f,Ls⟩:∃f,(x.txt uI).1=f:=⟨_,rfl⟩
      obtain⟨R8,Lt⟩:∃b,(x.txt uI).2=b:=⟨_,rfl⟩;have Hr:=ae (show x.iF=if R8=true then some ⟨kd,p,f,V.zero⟩ else none by rw [ab3 (by rw [Hq.out];exact hf) Db.out,Hq.out,Hp.out,Ls,Lt]);have Hff:=ae Ls;have ab9:=ae Lt;clear Ls Lt hv;rcases hf with rfl|rfl
      all_goals
       go_wp2_with fail;(refine(Lr x ka kc la lc SS uI _ hsz (aH.out.ext Xt)).mono ?_);rw [Hff.out,ab9.out];rintro e w3 ⟨rfl,h3⟩;have ai:=af.ext (w':=w3) Xt ai;have ak:=af.ext (w':=w3) Xt ak;have hx3:Ext w w3:=Xt;clear h3 hx ag hc0 ax hl0 hc1 aA ay hc2 hf2 hl2;obtain⟨hc1,aA,ay⟩:=ai.see;obtain⟨hc2,hf2,hl2⟩:=ak.see;go_wp2_with fail;refine aF (h:= ?_);exact⟨⟨_,p,f,V.zero⟩,none,0,none,0,R8,rfl,V.mY _ _,Hr.out,Xt⟩
     ·have h2:kd=2:=by have:=H0.out;omega
      have Hr:=ae (show x.iF=some ⟨kd,p,⟨#[]⟩,V.zero⟩ by rw [ab4 (by rw [Hq.out];exact h2) Db.out,Hq.out,Hp.out]);subst h2;clear hv hf;go_wp2_with fail;refine aF (h:= ?_);exact⟨⟨_,p,⟨#[]⟩,V.zero⟩,none,0,none,0,true,rfl,V.mY _ _,Hr.out,Xt⟩
theorem Ee (l:List Ow) (a:aq) (c:Nat) (S:aw) (w:World) (hsz:cF l<=2097152) (hin:cj w S l a) (hm:fL w):
 Calls prog 21 #[.slice a l.length c] w fun e w'=>e= .returned (.bool (iZ l))/\Ext w w':=by
 have hlen:=vw l;go_enter func21,ntmps21;go_wp2_with fail
 go_loopg [11] l.length (fun g i wr=>∃k:Nat,k<=l.length/\i= .int .i64 k/\g=l.length-k/\ (∀i (h:i<l.length),i<k->Ij l i h)/\Ext w wr)
 case atStart=>exact⟨0,Nat.zero_le _,rfl,rfl,fun i h h0=>absurd h0 (Nat.not_lt_zero _),Xt⟩
 case round=>
  obtain⟨wo,rfl⟩:∃x,x=wr:=⟨_,rfl⟩;obtain⟨k,hk,rfl,rfl,hok,hx⟩:=hrel;have eK:=ae hok;clear hok;by_cases hlt:k<l.length
  ·obtain⟨b,o,rfl,hS,hI⟩:=hin.resolve_left (by intro h;rw [h] at hlt;simp at hlt)
   obtain⟨pa,pc,d0,d1,hsl,hst⟩:=hI k hlt;have HI:=ae hI;have d0:=hx.cell d0;have d1:=hx.cell d1;have hst:=hst.ext hx;have aP:=ae hst;have hos:=qN (List.getElem_mem hlt);have hnz:=Ow.Wd l[k];have hpl:=Ow.qO l[k];have qP:=ae (fun(j:Nat) (h:j<(l[k]).paths.length)=>show ((l[k]).paths[j]).size<=2097152 from by have:=Ow.zF (o:=l[k]) (List.getElem_mem h);omega);have Nw:k=0\/∃m,k=m+1/\∃(h:m<l.length),wo.cell? ⟨b,o+m*2,none⟩=some (.string (l[m]).name):=by
    cases k with
    |zero=>exact .inl rfl
    |succ m=>obtain⟨_,_,e0,-,-,-⟩:=hI m (by omega);exact .inr ⟨m,rfl,by omega,hx.cell e0⟩
   clear hI hst hin;go_upto_region 4 with fail
   refine aI (R:=fun wx=>af wx wo.heap.size #[.string (l[k]).name, .slice pa (l[k]).paths.length pc] 58/\Ext wo wx) ⟨aj,Xt⟩ ?_;rintro wa ⟨hB,aD⟩;have hx1:Ext w wa:=hx.trans aD;have Ef:=aD.size
   cases dZ:gH (l[k]).name with
   |false=>
    have iO:=ae dZ;clear dZ d0 d1 Nw;have au:∀w',Ext wa w'-> (w'.cell? ⟨wo.heap.size,0,none⟩=some (.string (l[k]).name)/\w'.cell? ⟨wo.heap.size,1,none⟩=some (.slice pa (l[k]).paths.length pc)):=fun w' e=>⟨e.cell (hB.cells 0),e.cell (hB.cells 1)⟩;refine nt au (by kernel_rfl) (au _ Xt) (fun hHeld=> ?_);refine aJ 0 (h:= ?_);refine aJ 1 (h:= ?_);(try simp only [rl]);refine iw 2 (h:=fun K hK=> ?_);(try simp only [rl]);(try go_simp);(refine(qQ _ _ (by omega)).mono ?_);rw [iO.out];rintro e w4 ⟨rfl,rfl⟩;(try go_simp);refine hK.out _ _ (au _ Xt) (fun hHeld=> ?_);clear hK K;(try simp only [rl]);refine aJ 3 (h:= ?_);refine aJ 4 (h:= ?_);refine cJ 5 (h:= ?_);refine cJ 6 (h:= ?_);refine cJ 7 (h:= ?_);refine cJ 8 (h:= ?_);refine cJ 9 (h:= ?_);refine cJ 10 (h:= ?_);refine cJ 11 (h:= ?_);refine cJ 12 (h:= ?_);refine cJ 13 (h:= ?_);refine cJ 14 (h:= ?_);refine cJ 15 (h:= ?_);refine cJ 16 (h:= ?_);refine cJ 17 (h:= ?_);refine aJ 18 (h:= ?_);refine aJ 19 (h:= ?_);refine cJ 20 (h:= ?_);refine cJ 21 (h:= ?_);refine cJ 22 (h:= ?_);refine cJ 23 (h:= ?_);refine aJ 24 (h:= ?_);(try simp only [rl]);refine wpAnyH_done (by kernel_rfl) ?_ _;go_wp2_with fail;go_ret;exact⟨cX (zG hlt (fun h=>by have:=h.1;rw [iO.out] at this;cases this)).symm,Xt⟩
   |true=>
    have iO:=ae dZ;clear dZ d0 d1;rcases Nw with rfl|⟨m,rfl,tY,d0⟩
    ·have Ik:=ae (show 0<0->bA (l[0-1]'(by omega)).name (l[0]).name=true from fun h=>absurd h (Nat.lt_irrefl _))
     by_cases hpe:(l[0]).paths= []
     ·have hpi:(((l[0]).paths.length:Int)==0)=true:=by rw [hpe];rfl
      have gF:=ae hpe;clear hpe;have au:∀w',Ext wa w'-> (w'.cell? ⟨wo.heap.size,0,none⟩=some (.string (l[0]).name)/\w'.cell? ⟨wo.heap.size,1,none⟩=some (.slice pa (l[0]).paths.length pc)):=fun w' e=>⟨e.cell (hB.cells 0),e.cell (hB.cells 1)⟩;refine nt au (by kernel_rfl) (au _ Xt) (fun hHeld=> ?_);refine aJ 0 (h:= ?_);refine aJ 1 (h:= ?_);(try simp only [rl]);refine iw 2 (h:=fun K hK=> ?_);(try simp only [rl]);(try go_simp);(refine(qQ _ _ (by omega)).mono ?_);rw [iO.out];rintro e w4 ⟨rfl,rfl⟩;(try go_simp);refine hK.out _ _ (au _ Xt) (fun hHeld=> ?_);clear hK K;(try simp only [rl]);refine aJ 3 (h:= ?_);refine aJ 4 (h:= ?_);refine aJ 5 (h:= ?_);refine aJ 6 (h:= ?_);refine aJ 7 (h:= ?_);refine cJ 8 (h:= ?_);refine cJ 9 (h:= ?_);refine cJ 10 (h:= ?_);refine cJ 11 (h:= ?_);refine cJ 12 (h:= ?_);refine cJ 13 (h:= ?_);refine cJ 14 (h:= ?_);refine cJ 15 (h:= ?_);refine cJ 16 (h:= ?_);refine aJ 17 (h:= ?_);refine aJ 18 (h:= ?_);refine aJ 19 (h:= ?_);refine aJ 20 (h:= ?_);refine aJ 21 (h:= ?_);refine aJ 22 (h:= ?_);refine aJ 23 (h:= ?_);refine aJ 24 (h:= ?_);(try simp only [rl]);refine wpAnyH_done (by kernel_rfl) ?_ _;go_wp2_with fail;go_ret;exact⟨cX (zG hlt (fun h=>h.2.2.1 gF.out)).symm,Xt⟩
     ·have hpi:(((l[0]).paths.length:Int)==0)=false:=by have:=List.length_pos_iff.2 hpe;simp;omega
      have Il:=ae hpe;clear hpe;have au:∀w',Ext wa w'-> (w'.cell? ⟨wo.heap.size,0,none⟩=some (.string (l[0]).name)/\w'.cell? ⟨wo.heap.size,1,none⟩=some (.slice pa (l[0]).paths.length pc)):=fun w' e=>⟨e.cell (hB.cells 0),e.cell (hB.cells 1)⟩;refine nt au (by kernel_rfl) (au _ Xt) (fun hHeld=> ?_);refine aJ 0 (h:= ?_);refine aJ 1 (h:= ?_);(try simp only [rl]);refine iw 2 (h:=fun K hK=> ?_);(try simp only [rl]);(try go_simp);(refine(qQ _ _ (by omega)).mono ?_);rw [iO.out];rintro e w4 ⟨rfl,rfl⟩;(try go_simp);refine hK.out _ _ (au _ Xt) (fun hHeld=> ?_);clear hK K;(try simp only [rl]);refine aJ 3 (h:= ?_);refine aJ 4 (h:= ?_);refine aJ 5 (h:= ?_);refine aJ 6 (h:= ?_);refine aJ 7 (h:= ?_);refine cJ 8 (h:= ?_);refine cJ 9 (h:= ?_);refine cJ 10 (h:= ?_);refine cJ 11 (h:= ?_);refine cJ 12 (h:= ?_);refine cJ 13 (h:= ?_);refine cJ 14 (h:= ?_);refine cJ 15 (h:= ?_);refine cJ 16 (h:= ?_);refine aJ 17 (h:= ?_);refine aJ 18 (h:= ?_);refine aJ 19 (h:= ?_);refine aJ 20 (h:= ?_);refine aJ 21 (h:= ?_);refine aJ 22 (h:= ?_);refine aJ 23 (h:= ?_);refine aJ 24 (h:= ?_);(try simp only [rl]);refine wpAnyH_done (by kernel_rfl) ?_ _;go_wp2_with fail
      go_loopg [44] (l[0]).paths.length (fun g i wr=>∃j:Nat,j<= (l[0]).paths.length/\i= .int .i64 j/\g=(l[0]).paths.length-j/\ (∀i (h:i<(l[0]).paths.length),i<j->zH (l[0]).paths i h)/\af wr wo.heap.size #[.string (l[0]).name, .slice pa (l[0]).paths.length pc] 58/\Ext wo wr)
      case atStart=>exact⟨0,Nat.zero_le _,rfl,rfl,fun i h h0=>absurd h0 (Nat.not_lt_zero _),aj,Xt⟩
      case round=>
       obtain⟨j,hj,rfl,rfl,Bg,ja,jb⟩:=hrel;have Bh:=ae Bg;clear Bg;have hx2:Ext w wr:=hx.trans jb;obtain⟨lj,hfi,gI⟩:=ja.see;by_cases hjl:j<(l[0]).paths.length
       ·obtain⟨pb,po,rfl,qR,hC⟩:=aP.out.resolve_left (by intro h;rw [h] at hjl;simp at hjl)
        have e0:=jb.cell (hC j hjl);have xC:j=0\/∃mj,j=mj+1/\∃(h:mj<(l[0]).paths.length),wr.cell? ⟨pb,po+mj,none⟩=some (.string ((l[0]).paths[mj])):=by
         cases j with
         |zero=>exact .inl rfl
         |succ mj=>exact .inr ⟨mj,rfl,by omega,jb.cell (hC mj (by omega))⟩
        have hps:=qP.out j hjl;clear hC;have hbad:¬zH (l[0]).paths j hjl->iZ l=false:=fun h=>zG hlt (fun hw=>by have:=hw.2.2.2;rw [Ny hjl h] at this;cases this);have qI:=ae hbad;clear hbad;go_wp2_with fail;(refine(Bi _ _ (by omega) (hm.ext Xt)).mono ?_);rintro e w5 ⟨na,nc,rfl,vz,ov,h5⟩;have hx3:Ext w w5:=Xt;have ja:=af.ext h5 ja;have Bj:=ae ov;have hns:=Eg (l[0]).paths[j];have e0:=h5.cell e0;have gF:=ae (Nz (l[0]).paths[j]);have Wf:Ext wo w5:=jb.trans h5;clear lj hfi gI ov;have xC:j=0\/∃mj,j=mj+1/\∃(h:mj<(l[0]).paths.length),w5.cell? ⟨pb,po+mj,none⟩=some (.string ((l[0]).paths[mj])):=by
         rcases xC with h|⟨mj,h1,h2,h3⟩
         ·exact .inl h
         ·exact .inr ⟨mj,h1,h2,h5.cell h3⟩
        clear h5 jb;obtain⟨lj,hfi,gI⟩:=ja.see
        cases hsm:(cI (l[0]).paths[j]).isSome with
        |false=>
         rw [hsm] at gF;go_wp2_with fail;go_ret;exact⟨cX (qI.out (fun h=>by have:=h.1;rw [gF.out] at this;cases this)).symm,Xt⟩
        |true=>
         rw [hsm] at gF;have aT:=ae (NA hsm);clear hsm;by_cases h0:(bL (l[0]).paths[j]).length=0
         ·rw [decide_eq_true h0] at gF
          have A5:(((bL (l[0]).paths[j]).length:Int)==0)=true:=by rw [h0];rfl
          clear h0;go_wp2_with fail;go_ret;exact⟨cX (qI.out (fun h=>by have:=h.1;rw [gF.out] at this;cases this)).symm,Xt⟩
         ·rw [decide_eq_false h0] at gF
          have A5:(((bL (l[0]).paths[j]).length:Int)==0)=false:=beq_eq_false_iff_ne.2 (by omega);clear h0;have Bk:((l[0]).paths[j].toList==(l[0]).paths[j].toList)=true:=by simp
          rcases xC with rfl|⟨mj,rfl,Wh,e1⟩
          ·go_wp2_with fail
           (refine(Bl na nc _ _ _ (Bj.out.ext Xt) (fun q hq=>by have:=hns.2 q hq;omega) (by omega) (hm.ext Xt)).mono ?_);rw [aT.out];rintro e w6 ⟨rfl,h6⟩;have ja:=af.ext (w':=w6) Xt ja;clear lj hfi gI;go_wp2_with fail;go_roundg ((l[0]).paths.length-(0+1))
           case measure=>omega
           case rel=>exact⟨0+1,by omega,by go_num,rfl,fun i h hi=>by
            have ei:i=0:=by omega
            subst ei
            exact⟨by rw [gF.out];rfl,fun h=>absurd h (Nat.lt_irrefl _)⟩,aj,Xt⟩
          ·have Wi:(((mj+1:Nat):Int)-1)=(mj:Int):=by omega
           have Wj:IntKind.i64.wrap (mj:Int)=(mj:Int):=Im (by omega);have Wk:(0:Int)<= (mj:Int):=by omega
           have Wl:(mj:Int)<((l[0]).paths.length:Int):=by omega
           cases dA:bA (l[0]).paths[mj] (l[0]).paths[mj+1] with
           |false=>
            have hb:=zI dA;have tZ:=ae dA;clear dA;go_wp2_with fail;go_ret;exact⟨cX (qI.out (fun h=>by have:bA (l[0]).paths[mj] (l[0]).paths[mj+1]=true:=h.2 (by omega);rw [tZ.out] at this;cases this)).symm,Xt⟩
           |true=>
            have hb:=zI dA;have tZ:=ae dA;clear dA;go_wp2_with fail;(refine(Bl na nc _ _ _ (Bj.out.ext Xt) (fun q hq=>by have:=hns.2 q hq;omega) (by omega) (hm.ext Xt)).mono ?_);rw [aT.out];rintro e w6 ⟨rfl,h6⟩;have ja:=af.ext (w':=w6) Xt ja;clear lj hfi gI;go_wp2_with fail;go_roundg ((l[0]).paths.length-(mj+1+1))
            case measure=>omega
            case rel=>exact⟨mj+1+1,by omega,by go_num,rfl,fun i h hi=>by
             by_cases hij:i=mj+1
             ·subst hij
              exact⟨by rw [gF.out];rfl,fun _=>tZ.out⟩
             ·exact Bh.out i h (by omega),aj,Xt⟩
       ·have mX:pT (l[0]).paths=true:=NB (fun i h=>Bh.out i h (by omega))
        have uW:=ae mX;clear mX;go_wp2_with fail;go_roundg (l.length-(0+1))
        case measure=>omega
        case rel=>exact⟨0+1,by omega,by go_num,rfl,fun i h hi=>by
         by_cases hik:i=0
         ·subst hik
          exact⟨iO.out,Ik.out,Il.out,uW.out⟩
         ·exact eK.out i h (by omega),Xt⟩
    ·have d0:=aD.cell d0
     have hkk:(((m+1:Nat):Int)-1)=(m:Int):=by omega
     have hmw:IntKind.i64.wrap (m:Int)=(m:Int):=Im (by omega);have hm0:(0:Int)<= (m:Int):=by omega
     have Eh:(m:Int)<(l.length:Int):=by omega
     cases dA:bA (l[m]).name (l[m+1]).name with
     |false=>
      have hb:=zI dA;have tZ:=ae dA;clear dA;have au:∀w',Ext wa w'-> (w'.cell? ⟨wo.heap.size,0,none⟩=some (.string (l[m+1]).name)/\w'.cell? ⟨wo.heap.size,1,none⟩=some (.slice pa (l[m+1]).paths.length pc)/\w'.cell? ⟨b,o+m*2,none⟩=some (.string (l[m]).name)):=fun w' e=>⟨e.cell (hB.cells 0),e.cell (hB.cells 1),e.cell (d0)⟩;refine nt au (by kernel_rfl) (au _ Xt) (fun hHeld=> ?_);refine aJ 0 (h:= ?_);refine aJ 1 (h:= ?_);(try simp only [rl]);refine iw 2 (h:=fun K hK=> ?_);(try simp only [rl]);(try go_simp);(refine(qQ _ _ (by omega)).mono ?_);rw [iO.out];rintro e w4 ⟨rfl,rfl⟩;(try go_simp);refine hK.out _ _ (au _ Xt) (fun hHeld=> ?_);clear hK K;(try simp only [rl]);refine aJ 3 (h:= ?_);refine aJ 4 (h:= ?_);refine aJ 5 (h:= ?_);refine aJ 6 (h:= ?_);refine aJ 7 (h:= ?_);refine aJ 8 (h:= ?_);refine aJ 9 (h:= ?_);refine aJ 10 (h:= ?_);refine aJ 11 (h:= ?_);refine aJ 12 (h:= ?_);refine aJ 13 (h:= ?_);refine aJ 14 (h:= ?_);refine aJ 15 (h:= ?_);refine aJ 16 (h:= ?_);refine aJ 17 (h:= ?_);refine aJ 18 (h:= ?_);refine aJ 19 (h:= ?_);refine cJ 20 (h:= ?_);refine cJ 21 (h:= ?_);refine cJ 22 (h:= ?_);refine cJ 23 (h:= ?_);refine aJ 24 (h:= ?_);(try simp only [rl]);refine wpAnyH_done (by kernel_rfl) ?_ _;go_wp2_with fail;go_ret;exact⟨cX (zG hlt (fun h=>by have:bA (l[m]).name (l[m+1]).name=true:=h.2.1 (by omega);rw [tZ.out] at this;cases this)).symm,Xt⟩
     |true=>
      have hb:=zI dA;have Ik:=ae (show 0<m+1->bA (l[m+1-1]'(by omega)).name (l[m+1]).name=true from fun _=>dA);clear dA;by_cases hpe:(l[m+1]).paths= []
      ·have hpi:(((l[m+1]).paths.length:Int)==0)=true:=by rw [hpe];rfl
       have gF:=ae hpe;clear hpe;have au:∀w',Ext wa w'-> (w'.cell? ⟨wo.heap.size,0,none⟩=some (.string (l[m+1]).name)/\w'.cell? ⟨wo.heap.size,1,none⟩=some (.slice pa (l[m+1]).paths.length pc)/\w'.cell? ⟨b,o+m*2,none⟩=some (.string (l[m]).name)):=fun w' e=>⟨e.cell (hB.cells 0),e.cell (hB.cells 1),e.cell (d0)⟩;refine nt au (by kernel_rfl) (au _ Xt) (fun hHeld=> ?_);refine aJ 0 (h:= ?_);refine aJ 1 (h:= ?_);(try simp only [rl]);refine iw 2 (h:=fun K hK=> ?_);(try simp only [rl]);(try go_simp);(refine(qQ _ _ (by omega)).mono ?_);rw [iO.out];rintro e w4 ⟨rfl,rfl⟩;(try go_simp);refine hK.out _ _ (au _ Xt) (fun hHeld=> ?_);clear hK K;(try simp only [rl]);refine aJ 3 (h:= ?_);refine aJ 4 (h:= ?_);refine aJ 5 (h:= ?_);refine aJ 6 (h:= ?_);refine aJ 7 (h:= ?_);refine aJ 8 (h:= ?_);refine aJ 9 (h:= ?_);refine aJ 10 (h:= ?_);refine aJ 11 (h:= ?_);refine aJ 12 (h:= ?_);refine aJ 13 (h:= ?_);refine aJ 14 (h:= ?_);refine aJ 15 (h:= ?_);refine aJ 16 (h:= ?_);refine aJ 17 (h:= ?_);refine aJ 18 (h:= ?_);refine aJ 19 (h:= ?_);refine aJ 20 (h:= ?_);refine aJ 21 (h:= ?_);refine aJ 22 (h:= ?_);refine aJ 23 (h:= ?_);refine aJ 24 (h:= ?_);(try simp only [rl]);refine wpAnyH_done (by kernel_rfl) ?_ _;go_wp2_with fail;go_ret;exact⟨cX (zG hlt (fun h=>h.2.2.1 gF.out)).symm,Xt⟩
      ·have hpi:(((l[m+1]).paths.length:Int)==0)=false:=by have:=List.length_pos_iff.2 hpe;simp;omega
       have Il:=ae hpe;clear hpe;have au:∀w',Ext wa w'-> (w'.cell? ⟨wo.heap.size,0,none⟩=some (.string (l[m+1]).name)/\w'.cell? ⟨wo.heap.size,1,none⟩=some (.slice pa (l[m+1]).paths.length pc)/\w'.cell? ⟨b,o+m*2,none⟩=some (.string (l[m]).name)):=fun w' e=>⟨e.cell (hB.cells 0),e.cell (hB.cells 1),e.cell (d0)⟩;refine nt au (by kernel_rfl) (au _ Xt) (fun hHeld=> ?_);refine aJ 0 (h:= ?_);refine aJ 1 (h:= ?_);(try simp only [rl]);refine iw 2 (h:=fun K hK=> ?_);(try simp only [rl]);(try go_simp);(refine(qQ _ _ (by omega)).mono ?_);rw [iO.out];rintro e w4 ⟨rfl,rfl⟩;(try go_simp);refine hK.out _ _ (au _ Xt) (fun hHeld=> ?_);clear hK K;(try simp only [rl]);refine aJ 3 (h:= ?_);refine aJ 4 (h:= ?_);refine aJ 5 (h:= ?_);refine aJ 6 (h:= ?_);refine aJ 7 (h:= ?_);refine aJ 8 (h:= ?_);refine aJ 9 (h:= ?_);refine aJ 10 (h:= ?_);refine aJ 11 (h:= ?_);refine aJ 12 (h:= ?_);refine aJ 13 (h:= ?_);refine aJ 14 (h:= ?_);refine aJ 15 (h:= ?_);refine aJ 16 (h:= ?_);refine aJ 17 (h:= ?_);refine aJ 18 (h:= ?_);refine aJ 19 (h:= ?_);refine aJ 20 (h:= ?_);refine aJ 21 (h:= ?_);refine aJ 22 (h:= ?_);refine aJ 23 (h:= ?_);refine aJ 24 (h:= ?_);(try simp only [rl]);refine wpAnyH_done (by kernel_rfl) ?_ _;go_wp2_with fail
       go_loopg [44] (l[m+1]).paths.length (fun g i wr=>∃j:Nat,j<= (l[m+1]).paths.length/\i= .int .i64 j/\g=(l[m+1]).paths.length-j/\ (∀i (h:i<(l[m+1]).paths.length),i<j->zH (l[m+1]).paths i h)/\af wr wo.heap.size #[.string (l[m+1]).name, .slice pa (l[m+1]).paths.length pc] 58/\Ext wo wr)
       case atStart=>exact⟨0,Nat.zero_le _,rfl,rfl,fun i h h0=>absurd h0 (Nat.not_lt_zero _),aj,Xt⟩
       case round=>
        obtain⟨j,hj,rfl,rfl,Bg,ja,jb⟩:=hrel;have Bh:=ae Bg;clear Bg;have hx2:Ext w wr:=hx.trans jb;obtain⟨lj,hfi,gI⟩:=ja.see;by_cases hjl:j<(l[m+1]).paths.length
        ·obtain⟨pb,po,rfl,qR,hC⟩:=aP.out.resolve_left (by intro h;rw [h] at hjl;simp at hjl)
         have e0:=jb.cell (hC j hjl);have xC:j=0\/∃mj,j=mj+1/\∃(h:mj<(l[m+1]).paths.length),wr.cell? ⟨pb,po+mj,none⟩=some (.string ((l[m+1]).paths[mj])):=by
          cases j with
          |zero=>exact .inl rfl
          |succ mj=>exact .inr ⟨mj,rfl,by omega,jb.cell (hC mj (by omega))⟩
         have hps:=qP.out j hjl;clear hC;have hbad:¬zH (l[m+1]).paths j hjl->iZ l=false:=fun h=>zG hlt (fun hw=>by have:=hw.2.2.2;rw [Ny hjl h] at this;cases this);have qI:=ae hbad;clear hbad;go_wp2_with fail;(refine(Bi _ _ (by omega) (hm.ext Xt)).mono ?_);rintro e w5 ⟨na,nc,rfl,vz,ov,h5⟩;have hx3:Ext w w5:=Xt;have ja:=af.ext h5 ja;have Bj:=ae ov;have hns:=Eg (l[m+1]).paths[j];have e0:=h5.cell e0;have gF:=ae (Nz (l[m+1]).paths[j]);have Wf:Ext wo w5:=jb.trans h5;clear lj hfi gI ov;have xC:j=0\/∃mj,j=mj+1/\∃(h:mj<(l[m+1]).paths.length),w5.cell? ⟨pb,po+mj,none⟩=some (.string ((l[m+1]).paths[mj])):=by
          rcases xC with h|⟨mj,h1,h2,h3⟩
          ·exact .inl h
          ·exact .inr ⟨mj,h1,h2,h5.cell h3⟩
         clear h5 jb;obtain⟨lj,hfi,gI⟩:=ja.see
         cases hsm:(cI (l[m+1]).paths[j]).isSome with
         |false=>
          rw [hsm] at gF;go_wp2_with fail;go_ret;exact⟨cX (qI.out (fun h=>by have:=h.1;rw [gF.out] at this;cases this)).symm,Xt⟩
         |true=>
          rw [hsm] at gF;have aT:=ae (NA hsm);clear hsm;by_cases h0:(bL (l[m+1]).paths[j]).length=0
          ·rw [decide_eq_true h0] at gF
           have A5:(((bL (l[m+1]).paths[j]).length:Int)==0)=true:=by rw [h0];rfl
           clear h0;go_wp2_with fail;go_ret;exact⟨cX (qI.out (fun h=>by have:=h.1;rw [gF.out] at this;cases this)).symm,Xt⟩
          ·rw [decide_eq_false h0] at gF
           have A5:(((bL (l[m+1]).paths[j]).length:Int)==0)=false:=beq_eq_false_iff_ne.2 (by omega);clear h0;have Bk:((l[m+1]).paths[j].toList==(l[m+1]).paths[j].toList)=true:=by simp
           rcases xC with rfl|⟨mj,rfl,Wh,e1⟩
           ·go_wp2_with fail
            (refine(Bl na nc _ _ _ (Bj.out.ext Xt) (fun q hq=>by have:=hns.2 q hq;omega) (by omega) (hm.ext Xt)).mono ?_);rw [aT.out];rintro e w6 ⟨rfl,h6⟩;have ja:=af.ext (w':=w6) Xt ja;clear lj hfi gI;go_wp2_with fail;go_roundg ((l[m+1]).paths.length-(0+1))
            case measure=>omega
            case rel=>exact⟨0+1,by omega,by go_num,rfl,fun i h hi=>by
             have ei:i=0:=by omega
             subst ei
             exact⟨by rw [gF.out];rfl,fun h=>absurd h (Nat.lt_irrefl _)⟩,aj,Xt⟩
           ·have Wi:(((mj+1:Nat):Int)-1)=(mj:Int):=by omega
            have Wj:IntKind.i64.wrap (mj:Int)=(mj:Int):=Im (by omega);have Wk:(0:Int)<= (mj:Int):=by omega
            have Wl:(mj:Int)<((l[m+1]).paths.length:Int):=by omega
            cases dA:bA (l[m+1]).paths[mj] (l[m+1]).paths[mj+1] with
            |false=>
             have hb:=zI dA;have tZ:=ae dA;clear dA;go_wp2_with fail;go_ret;exact⟨cX (qI.out (fun h=>by have:bA (l[m+1]).paths[mj] (l[m+1]).paths[mj+1]=true:=h.2 (by omega);rw [tZ.out] at this;cases this)).symm,Xt⟩
            |true=>
             have hb:=zI dA;have tZ:=ae dA;clear dA;go_wp2_with fail;(refine(Bl na nc _ _ _ (Bj.out.ext Xt) (fun q hq=>by have:=hns.2 q hq;omega) (by omega) (hm.ext Xt)).mono ?_);rw [aT.out];rintro e w6 ⟨rfl,h6⟩;have ja:=af.ext (w':=w6) Xt ja;clear lj hfi gI;go_wp2_with fail;go_roundg ((l[m+1]).paths.length-(mj+1+1))
             case measure=>omega
             case rel=>exact⟨mj+1+1,by omega,by go_num,rfl,fun i h hi=>by
              by_cases hij:i=mj+1
              ·subst hij
               exact⟨by rw [gF.out];rfl,fun _=>tZ.out⟩
              ·exact Bh.out i h (by omega),aj,Xt⟩
        ·have mX:pT (l[m+1]).paths=true:=NB (fun i h=>Bh.out i h (by omega))
         have uW:=ae mX;clear mX;go_wp2_with fail;go_roundg (l.length-(m+1+1))
         case measure=>omega
         case rel=>exact⟨m+1+1,by omega,by go_num,rfl,fun i h hi=>by
          by_cases hik:i=m+1
          ·subst hik
           exact⟨iO.out,Ik.out,Il.out,uW.out⟩
          ·exact eK.out i h (by omega),Xt⟩
  ·have He:=ae (Wm (l:=l) (fun i h=>eK.out i h (by omega)))
   go_wp2_with fail;go_ret;refine⟨cX ?_,Xt⟩;rw [He.out];exact decide_eq_decide.2 (by omega)
end Go.Proofs.YtlcebdaghmdkeabGreatDoor
