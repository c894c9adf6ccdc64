import Derived.Test.YtlcebdaghmdkeabGreatDoorZ14
set_option linter.all false
set_option maxRecDepth 100000
set_option maxHeartbeats 64000000
namespace Go.Proofs.YtlcebdaghmdkeabGreatDoor
open Go.Proofs.Tryz
open Go.RowKit
attribute [local go_sem↓] Go.wp_at_zero Go.wp_at_succ
def abl (f:ah->Bool) (ks:List ah) (r:Int):Prop:=
 (r= -1/\∀x∈ks,f x=false)\/∃k:Nat,r=(k:Int)/\∃h:k<ks.length,f ks[k]=true/\∀x∈ks.take k,f x=false
def vo (g:Nat) (lb:Array Value) (f:ah->Bool) (ks:List ah) (w:World):Prop:=
 (∀args w,(callFunc g args).run prog w= .ok (.enter g args) w)/\∀W x,x∈ks->Ext w W->Calls prog g (#[.string x]++lb) W fun e w'=>e= .returned (.bool (f x))/\Ext W w'
theorem vo.later {g:Nat} {lb:Array Value} {f:ah->Bool} {ks:List ah} {w W:World} (h:vo g lb f ks w) (e:Ext w W):vo g lb f ks W:=⟨h.1,fun W' x hx e'=>h.2 W' x hx (e.trans e')⟩
theorem Sw (ks:List ah) (a:au) (n c:Nat) (S:az) (g:Nat) (lb:Array Value) (f:ah->Bool) (w:World) (hn:ks.length=n) (hbig:n<=1073741824) (hst:bR w S a ks) (hg:vo g lb f ks w):
 Calls prog 178 #[.slice a n c, .func (.func g) #[] lb] w fun e w'=>∃r,e= .returned (.int .i64 r)/\abl f ks r/\Ext w w':=by
 obtain⟨eg,hcall⟩:=hg;have Hc:=ae hcall;clear hcall;subst hn;go_enter func178,ntmps178;go_wp2_with fail
 go_loopg [5,8] ks.length (fun gg _ i wr=>∃k:Nat,k<=ks.length/\i= .int .i64 k/\gg=ks.length-k/\ (∀x∈ks.take k,f x=false)/\Ext w wr)
 case atStart=>exact⟨0,Nat.zero_le _,rfl,rfl,by simp,Xt⟩
 case round=>
  obtain⟨k,hk,rfl,rfl,hall,hx⟩:=hrel;have wV:=ae hall;clear hall;by_cases hlt:k<ks.length
  ·obtain⟨b,o,rfl,hS,hC⟩:=hst.resolve_left (by intro h;rw [h] at hlt;simp at hlt)
   have d0:=hx.cell (hC k hlt);have Hm:=ae (show ks[k]∈ks from List.getElem_mem hlt);have Ht:=ae (List.take_succ_eq_append_getElem hlt);obtain⟨p,hp⟩:∃p,ks[k]=p:=⟨_,rfl⟩;have Hp:=ae hp;rw [hp] at d0 Hm Ht;clear hp hC
   cases hq:f p with
   |true=>
    have Hq:=ae hq;go_wp2_with (go_at_fn g;refine(Hc.out _ p Hm.out Xt).mono ?_;rw [hq];rintro e w2 ⟨rfl,h2⟩);go_ret;exact⟨_,rfl, .inr ⟨k,rfl,hlt,by rw [Hp.out];exact Hq.out,wV.out⟩,Xt⟩
   |false=>
    have Hq:=ae hq;go_wp2_with (go_at_fn g;refine(Hc.out _ p Hm.out Xt).mono ?_;rw [hq];rintro e w2 ⟨rfl,h2⟩);go_roundg (ks.length-(k+1))
    case measure=>omega
    case rel=>exact⟨k+1,by omega,by go_num,rfl,fun x hx=>by
     rw [Ht.out] at hx;rcases List.mem_append.1 hx with h|h
     ·exact wV.out x h
     ·simp at h;rw [h];exact Hq.out,Xt⟩
  ·have cy:=ae (show∀x∈ks,f x=false from fun x hx=>wV.out x (by rw [List.take_of_length_le (by omega)];exact hx))
   go_wp2_with fail;go_ret;exact⟨_,rfl, .inl ⟨rfl,cy.out⟩,Xt⟩
theorem Yq (ks:List ah) (a:au) (n c:Nat) (S:az) (g:Nat) (lb:Array Value) (f:ah->Bool) (w:World) (hn:ks.length=n) (hbig:n<=1073741824) (hst:bR w S a ks) (hg:vo g lb f ks w):
 Calls prog 135 #[.slice a n c, .func (.func g) #[] lb] w fun e w'=>e= .returned (.bool (ks.any f))/\Ext w w':=by
 go_enter func135,ntmps135;go_wp2_with fail;(refine(Sw ks a n c S g lb f _ hn hbig (hst.ext Xt) (hg.later Xt)).mono ?_);rintro e w1 ⟨r,rfl,hr,h1⟩
 have Hr:=ae (show ks.any f=decide (0<=r) by
  rcases hr with⟨rfl,h⟩|⟨k,rfl,hk,hf,-⟩
  ·rw [List.any_eq_false.2 (fun x hx=>by simp [h x hx])];rfl
  ·rw [List.any_eq_true.2 ⟨_,List.getElem_mem hk,hf⟩];simp)
 clear hr;go_wp2_with fail;go_ret;exact⟨dv Hr.out.symm,Xt⟩
theorem Sy {g:Nat} {T:TypeId}:∀(vs:List Value) (o:Nat) (w:World) (cur:Array Value),af w g cur T->∃cur',af (w.setCells g o vs) g cur' T/\cur'.size=cur.size/\∀q,q<o->cur'[q]? =cur[q]?
 | [],o,w,cur,h=>⟨cur,h,rfl,fun _ _=>rfl⟩
 |v::r,o,w,cur,h=>by obtain⟨c',h1,h2,h3⟩:=Sy r (o+1) _ _ (h.set o v);refine⟨c',h1,by rw [h2];simp,fun q hq=> ?_⟩;rw [h3 q (by omega),Array.getElem?_setIfInBounds];rw [if_neg (by omega)]
theorem PV (ks:List ah) (a:au) (n c:Nat) (g:Nat) (lb:Array Value) (f:ah->Bool) (w0 w:World) (hS:ek w w0.heap.size (.slice a n c) n ks) (hbig:n<=1073741824) (hx0:Ext w0 w) (hg:vo g lb f ks w0):
 Calls prog 129 #[.slice a n c, .func (.func g) #[] lb] w fun e w'=>e= .returned (.slice a (ks.filter fun x=> !f x).length c)/\ek w' w0.heap.size (.slice a (ks.filter fun x=> !f x).length c) (ks.filter fun x=> !f x).length (ks.filter fun x=> !f x)/\Ext w0 w':=by
 obtain⟨a',c',he,hok,hlen,hst⟩:=hS.strs;simp only [Value.slice.injEq,true_and] at he;obtain⟨rfl,rfl⟩:=he;have aP:=ae hst;have HS:=ae hS;obtain⟨eg,hcall⟩:=hg;have Lx:=ae hcall;subst hlen;clear hS hcall;go_enter func129,ntmps129;go_wp2_with fail;(refine(Sw ks a _ c _ g lb f _ rfl hbig (aP.out.ext Xt) ⟨eg,fun W x hx e=>Lx.out W x hx (hx0.trans (Ext.trans (b:=w) Xt e))⟩).mono ?_);rintro e w1 ⟨r,rfl,hr,h1⟩;rcases hr with⟨rfl,hall⟩|⟨k0,rfl,gS,aw,hall⟩
 ·have vh:(ks.filter fun x=> !f x)=ks:=List.filter_eq_self.2 (fun x hx=>by simp [hall x hx])
  have LA:=ae vh;clear hall vh;go_wp2_with fail;go_ret;rw [LA.out];exact⟨rfl,HS.out.ext Xt,Ext.trans hx0 Xt⟩
 ·obtain⟨b,hab,hbb,GL,hg0,hnc,hcm,hcs,ht⟩:∃b,a=some ⟨b,0,none⟩/\w0.heap.size<=b/\∃cur:Array Value,w.heap[b]? =some (.cells cur 9 (0,0))/\ks.length<=c/\c<=maxLen/\cur.size=c*1/\cur.toList.take (ks.length*1)=ks.map Value.string:=by
   rcases HS.out.2.2 with⟨-,h0⟩|⟨b,cap,cur,hv,hb,hg,h1,h2,h3,h4⟩
   ·omega
   ·simp only [Value.slice.injEq,true_and] at hv
    obtain⟨rfl,rfl⟩:=hv;exact⟨b,rfl,hb,cur,hg,h1,h2,h3,h4⟩
  subst hab;have hx1:Ext w w1:=Xt;have ag5:Ext w0 w1:=hx0.trans hx1;have fB:=(Array.getElem?_eq_some_iff.1 hg0).1;have ai:af w1 b GL 9:=af.ext hx1 hg0
  have jG:=ae (show∀q (h:q<ks.length),GL[q]? =some (.string ks[q]) from fun q h=>by
   have h5:(GL.toList.take (ks.length*1))[q]? =(ks.map Value.string)[q]? :=by rw [ht]
   rw [List.getElem?_take,if_pos (by omega)] at h5
   simpa [h] using h5)
  have Sz:=ae (show (ks.take (k0+1)).filter (fun x=> !f x)=ks.take k0 by
   rw [List.take_succ_eq_append_getElem gS,List.filter_append,List.filter_eq_self.2 (fun x hx=>by simp [hall x hx])]
   simp [aw])
  have hneg:((k0:Int)== -1)=false:=beq_eq_false_iff_ne.2 (by omega);have hcm2:c<=9223372036854775807:=hcm;clear hall h1 hst hx0 hg0 ht aw HS aP;go_wp2_with fail
  go_loopg [5,6,7] ks.length (fun gg s5 s6 _ wr=>∃(i j:Nat) (cur:Array Value),s5= .int .i64 i/\s6= .int .i64 j/\i<j/\j<=ks.length/\ks.length-j<=gg/\af wr b cur 9/\cur.size=c/\ ((ks.take j).filter (fun x=> !f x)).length=i/\
   (∀q (h:q<i),cur[q]? =((ks.take j).filter (fun x=> !f x))[q]?.map Value.string)/\ (∀q (h:q<ks.length),j<=q->cur[q]? =some (.string ks[q]))/\ (∀q,q<ks.length->∃s,cur[q]? =some (.string s))/\Ext w0 wr)
  case atStart=>
   refine⟨k0,k0+1,GL,rfl,by go_num,by omega,by omega,by omega,aj,by omega,by rw [Sz.out];simp;omega,fun q h=> ?_,fun q h _=>jG.out q h,fun q h=>⟨_,jG.out q h⟩,Xt⟩;rw [Sz.out,jG.out q (by omega)];simp [h,show q<ks.length by omega]
  case round=>
   obtain⟨i,j,cur,rfl,rfl,hij,hj,hgg,hB,hcz,hfl,SA,SB,SC,hx⟩:=hrel;have LB:=ae SA;have LC:=ae SB;have GM:=ae SC;have vD:=ae hfl;clear SA SB SC hfl;by_cases hlt:j<ks.length
   ·have Dk:=LC.out j hlt (Nat.le_refl _)
    have d0:wr.cell? ⟨b,j,none⟩=some (.string ks[j]):=by rw [hB.cells j];exact Dk
    have Hm:=ae (show ks[j]∈ks from List.getElem_mem hlt);have Ht:=ae (List.take_succ_eq_append_getElem hlt);have Hhj:=ae Dk;clear Dk;obtain⟨p,hp⟩:∃p,ks[j]=p:=⟨_,rfl⟩;have Hp:=ae hp;rw [hp] at d0 Hm Ht;clear hp
    cases hq:f p with
    |true=>
     have jF:=ae (show (ks.take (j+1)).filter (fun x=> !f x)=(ks.take j).filter (fun x=> !f x) by rw [Ht.out,List.filter_append];simp [hq]);go_wp2_with (go_at_fn g;refine(Lx.out _ p Hm.out Xt).mono ?_;rw [hq];rintro e w2 ⟨rfl,h2⟩);go_roundg (ks.length-(j+1))
     case measure=>omega
     case rel=>exact⟨i,j+1,cur,rfl,by go_num,by omega,by omega,Nat.le_refl _,aj,hcz,by rw [jF.out];exact vD.out,by rw [jF.out];exact LB.out,fun q h h2=>LC.out q h (by omega),GM.out,Xt⟩
    |false=>
     have jF:=ae (show (ks.take (j+1)).filter (fun x=> !f x)=(ks.take j).filter (fun x=> !f x)++ [p] by rw [Ht.out,List.filter_append];simp [hq]);obtain⟨abm,SD⟩:=GM.out i (by omega);have di:wr.cell? ⟨b,i,none⟩=some (.string abm):=by rw [hB.cells i];exact SD
     have abn:=hB.free i;have hiN:(i:Int)<(ks.length:Int):=by omega
     have ag6:i<ks.length:=by omega
     have lQ:=hB.cells i;clear SD;go_wp2_with fail;go_at_fn g;(refine(Lx.out _ p Hm.out Xt).mono ?_);rw [hq];rintro e w2 ⟨rfl,h2⟩;have ak:=af.ext (w':=w2) Xt hB;have di2:=Ext.cell (a:=wr) (b:=w2) Xt di;have hx2:Ext w0 w2:=Xt;have ag7:=ak.free i;clear h2 lQ di abn;go_wp2_with fail;go_roundg (ks.length-(j+1))
     case measure=>omega
     case rel=>
      refine⟨i+1,j+1,cur.setIfInBounds i (.string p),by go_num,by go_num,by omega,by omega,Nat.le_refl _,af.set ak i _,by simpa using hcz,by rw [jF.out,List.length_append,vD.out];rfl,fun q h=> ?_,fun q h h2=> ?_,fun q h=> ?_,Xt⟩
      ·rw [jF.out,Array.getElem?_setIfInBounds]
       by_cases vE:i=q
       ·subst vE
        rw [if_pos rfl,if_pos (by omega),List.getElem?_append_right (by rw [vD.out];exact Nat.le_refl _),vD.out];simp
       ·rw [if_neg vE,LB.out q (by omega),List.getElem?_append_left (by rw [vD.out];omega)]
      ·rw [Array.getElem?_setIfInBounds,if_neg (by omega)]
       exact LC.out q h (by omega)
      ·rw [Array.getElem?_setIfInBounds]
       by_cases vE:i=q
       ·rw [if_pos vE,if_pos (by omega)];exact⟨p,rfl⟩
       ·rw [if_neg vE];exact GM.out q h
   ·obtain rfl:j=ks.length:=by omega
    have vh:ks.filter (fun x=> !f x)=(ks.take ks.length).filter (fun x=> !f x):=by rw [List.take_of_length_le (Nat.le_refl _)]
    have LA:=ae vh;clear vh;obtain⟨j0,Bh,hy0,hy1,hy2⟩:=info_parts Tryz.xe
    have hcl:∀ty,(Builtin.clear_ #[33] ty #[.slice (some ⟨b,i,none⟩) (ks.length-i) (c-i)]).run prog wr= .ok (.tuple #[]) (wr.setCells b i (List.replicate (ks.length-i) (.string ⟨#[]⟩))):=
     fun ty=>Lib.run_clear_slice wr _ _ ty (.string ⟨#[]⟩) underlying33 (fun w=>by simp [Go.zeroValue,typeInfo,Bh,hy0]) rfl rfl b i _ _ (by omega) (fun t ht=>by obtain⟨s,hs⟩:=GM.out (i+t) (by omega);rw [hB.cells,hs];rfl) (fun t ht=>hB.free _)
    have hi1:(0:Int)<= (i:Int):=by omega
    have hi2:(i:Int)<= (ks.length:Int):=by omega
    have hi3:(ks.length:Int)<= (c:Int):=by omega
    have hi4:(i:Int)<= (c:Int):=by omega
    have hi5:¬c=i:=by omega
    have hi6:i<=c:=by omega
    have Je:i<=ks.length:=by omega
    obtain⟨abo,ak,ag8,SE⟩:=Sy (g:=b) (T:=9) (List.replicate (ks.length-i) (.string ⟨#[]⟩)) i wr cur hB;have abp:=ae SE;have hx2:Ext w0 (wr.setCells b i (List.replicate (ks.length-i) (.string ⟨#[]⟩))):=Ext.gh (by exact Xt) hbb _ _;clear Bh hy0 hy1 hy2 SE;go_wp2_with fail;go_ret;rw [LA.out,vD.out];refine⟨rfl,⟨vD.out,?_⟩,Xt⟩;refine eD (w:=wr.setCells b i (List.replicate (ks.length-i) (.string ⟨#[]⟩))) ⟨by rw [List.length_map,vD.out,Nat.mul_one], .inr ⟨b,c,abo,rfl,hbb,ak,by omega,hcm,by omega,?_⟩⟩ Xt;rw [Nat.mul_one];refine List.ext_getElem? fun q=> ?_;rw [List.getElem?_take]
    split
    ·rename_i vE
     rw [Array.getElem?_toList,abp.out q vE,LB.out q vE,List.getElem?_map]
    ·rename_i vE
     rw [List.getElem?_eq_none (by rw [List.length_map,vD.out];omega)]
theorem PX {W:World} {ops:Array Oper} {rest:List Oper} {o:Oper} {a:Act} {Q:Exit->Act->World->Prop} {base n:Nat} {S:az} {vl:Value} {l:List Ow} {x:Ow} {pa:au} {pc:Nat} (hgd:o.guard=none) (B:Nat) {s t:Operand}
 (ho:o.op= .call {callee:= .builtin .append,args:= #[s,t],argTypes:= #[37,37]}) (hs:a.eval s=vl) (hx:a.eval t= .slice (some ⟨B,0,none⟩) 1 1)
 (hI:j6 W base S vl n l) (hok:aM pa x.paths.length pc) (hv:bR W (fX base S vl) pa x.paths) (hB:af W B #[.string x.name, .slice pa x.paths.length pc] 58) (hn:n<=1073741824) (hbase:base<=W.heap.size)
 (h:∀g cap w',j6 w' base S (.slice (some ⟨g,0,none⟩) (n+1) cap) (n+1) (l++ [x])->W.grownBy w' vl.ownBlock-> (∀k,vl.ownBlock=some k->base<=k)->wpList prog ops Q rest (a.put o.dst (.slice (some ⟨g,0,none⟩) (n+1) cap)) w'):wpList prog ops Q (o::rest) a W:=by
 obtain⟨j0,hj,hy0,hy1,hy2⟩:=info_parts Tryz.DT;obtain⟨hl0,xs,pk,xa⟩:=hI;refine wpList_plain hgd fun _ hK=>wp_append_lies _ s t _ ho base 58 j0 _ 2 40 underlying37 hj hy0 hy1 hy2 rfl (by decide) vl n xs hs pk ⟨B,0,none⟩ 1 1 [.string x.name, .slice pa x.paths.length pc] hx (by rfl) (World.news_of_block (cs:= #[.string x.name, .slice pa x.paths.length pc]) (t:=58) (fr:=(0,0)) hB) (by simp [Value.oneCell']) (by omega) (by unfold maxLen;omega) (by omega) hbase _ rfl ?_;intro g cap w' hown hgrow hat hlt;exact hK _ _ (h g cap w' (j6.push hl0 pk xa hok hv hown hgrow g rfl hat) hgrow (fun k hk=>(pk.lt k hk).1))
theorem abq {α β:Type} (f:α->Option β) (l:List α) {k:Nat} (h:k<l.length):(l.take (k+1)).filterMap f=(l.take k).filterMap f++(match f l[k] with|some x=> [x]|none=> []):=by
 rw [List.take_succ_eq_append_getElem h,List.filterMap_append];congr 1
 cases hf:f l[k]<;>simp [hf]
theorem abr (v:V) (ka:au) (kc:Nat) (la:au) (lc:Nat) (S:az) (B:Nat) (q:ah) (w:World) (jH:v.size<=1073741824) (hB:aD w B v ka kc la lc) (hin:v.In w S ka kc la lc) (hq:q.size<=1073741824) (hm:fZ w):
 Calls prog 147 #[.string q, .pointer (some ⟨B,0,none⟩)] w fun e w'=>e= .returned (.bool (!(bG v q).isSome))/\Ext w w':=by
 have aJ:=ae hin;clear hin;obtain⟨b,hb⟩:∃b,(bG v q).isSome=b:=⟨_,rfl⟩;obtain⟨hc0,aw,hl0⟩:=hB.see;go_enter func147,ntmps147;go_wp2_with fail;(refine(C5 v ka kc la lc S q _ jH (aJ.out.ext Xt) hq (hm.ext Xt)).mono ?_);rw [hb];rintro e w1 ⟨k1,c1,l1,d1,rfl,eJ,h1⟩;go_wp2_with fail;go_ret;exact⟨dv (by rw [hb]),Xt⟩
theorem abt (v:V) (ka:au) (kc:Nat) (la:au) (lc:Nat) (S:az) (l:List Ow) (a:au) (c:Nat) (T:az) (w:World) (jH:v.size<=1073741824) (cX:cw l<=2097152) (hin:v.In w S ka kc la lc) (hjn:cx w T l a) (hm:fZ w):
 Calls prog 91 #[v.val ka kc la lc, .slice a l.length c] w (aa1 (fun _=>False) (np v l) w):=by
 have uU:∀(fn:Fn) (first cap:Array Value) (w:World),(Instr.makeFunc fn first cap).run prog w= .ok (.func fn first cap) w:=fun _ _ _ _=>rfl;have hlen:=tQ l;have aJ:=ae hin;have aU:=ae hjn;clear hin hjn;go_enter func91,ntmps91;go_upto_region 2 with fail
 refine aI (R:=fun wx=>aD wx w.heap.size v ka kc la lc/\Ext w wx) ⟨aj,Xt⟩ ?_;rintro wa ⟨ag,aH⟩;have kG:=ag.lt;go_wp2_with fail
 go_loopg [5,10] l.length (fun g s5 i wr=>∃(k:Nat) (a':au) (c':Nat) (os:List Ow),k<=l.length/\i= .int .i64 k/\g=l.length-k/\s5= .slice a' os.length c'/\os=np v (l.take k)/\j6 wr wa.heap.size (fun _=>False) (.slice a' os.length c') os.length os/\Ext wa wr)
 case atStart=>exact⟨0,none,0, [],Nat.zero_le _,rfl,rfl,rfl,rfl,j6.nil _ _ _,Xt⟩
 case round=>
  obtain⟨wo,rfl⟩:∃x,x=wr:=⟨_,rfl⟩;obtain⟨k,a',c',os,hk,rfl,rfl,rfl,hos,hO,hx⟩:=hrel;have hol:os.length<=l.length:=by rw [hos];unfold np;have:=List.length_filterMap_le (jc fun p=>(bG v p).isSome) (l.take k);simp at this;omega
  have kF:=ae hos;have HO:=ae hO;have J3:=hx.size;have dJ:Ext w wo:=aH.trans hx;clear hos hO;by_cases hlt:k<l.length
  ·obtain⟨b,o,rfl,o8,pa,pc,d0,d1,hsl,hst⟩:=(aU.out.ext dJ).item hlt
   have jt:=qG (List.getElem_mem hlt);have hpl:=Ow.qH l[k];have rQ:=ae (fun(x:ah) (h:x∈ (l[k]).paths)=>show x.size<=2097152 from by have:=Ow.AE h;omega);have mW:=ae (show np v (l.take (k+1))=_ from abq (jc fun p=>(bG v p).isSome) l hlt);obtain⟨ow,how⟩:∃ow,l[k]=ow:=⟨_,rfl⟩;rw [how] at d0 d1 hsl hst hpl rQ mW jt;have aP:=ae hst;clear how hst;go_upto_region 5 with fail
   refine aI (R:=fun wx=>af wx wo.heap.size #[.string ow.name, .slice pa ow.paths.length pc] 58/\Ext wo wx) ⟨aj,Xt⟩ ?_;rintro wb ⟨dh,aO⟩;have rV:aD wb w.heap.size v ka kc la lc:=af.ext (hx.trans aO) ag;have vF:Ext w wb:=dJ.trans aO;have hzb:=aO.size;have PU:=dh.lt;obtain⟨eO,eP,eQ⟩:=dh.see;go_wp2_with fail;(refine(AZ ow.paths pa _ pc _ _ rfl hsl (by omega) (aP.out.ext Xt)).mono ?_);rintro e w3 ⟨a3,c3,rfl,jI,kX,h3⟩;have kX:ek w3 wb.heap.size (.slice a3 ow.paths.length c3) ow.paths.length ow.paths:=by simpa using kX
   have hx3:Ext wb w3:=Xt;have vr:=af.ext hx3 dh
   have yR:vo 147 #[.pointer (some ⟨w.heap.size,0,none⟩)] (fun q=> !(bG v q).isSome) ow.paths wb:=
    ⟨enters_of func147 (by kernel_rfl) rfl,fun W x hx e=>abr v ka kc la lc S w.heap.size x W jH (af.ext e rV) (aJ.out.ext (vF.trans e)) (by have:=rQ.out x hx;omega) (hm.ext (vF.trans e))⟩
   clear eO eP eQ h3;obtain⟨eO,eP,eQ⟩:=vr.see;go_wp2_with fail;(refine(PV ow.paths a3 _ c3 147 _ _ wb _ (kX.ext Xt) (by omega) (by exact Xt) yR).mono ?_);obtain⟨ps,hps⟩:∃ps,(ow.paths.filter fun x=> !!(bG v x).isSome)=ps:=⟨_,rfl⟩;have mY:=ae (show ow.paths.filter (fun p=>(bG v p).isSome)=ps by rw [<-hps];simp);have YI:ps.length<=ow.paths.length:=by rw [<-hps];exact List.length_filter_le _ _
   rw [hps];rintro e w4 ⟨rfl,bI,h4⟩;have CX:=af.ext h4 dh;have gJ:=h4.size;have bH:Ext wo w4:=aO.trans h4;have yV:=ae bI;clear eO eP eQ yR kX vr hx3 hps bI;obtain⟨eO,eP,eQ⟩:=CX.see;go_upto_region 6 with fail
   refine aI (R:=fun wx=>af wx wo.heap.size #[.string ow.name, .slice a3 ps.length c3] 58/\ek wx wb.heap.size (.slice a3 ps.length c3) ps.length ps/\Ext wo wx) ⟨aj,yV.out.keep (fun b hb he=>Below.heap_setCell _ _ _ _ (by have:=(yV.out.lt b he).1;simp;omega)),Xt⟩ ?_;clear CX dh eO eP eQ yV bH h4;rintro wc ⟨dh,cP,fh⟩;have cP:=ae cP;have PW:Ext wa wc:=hx.trans fh;have o9:=fh.size;obtain⟨eO,eP,eQ⟩:=dh.see;by_cases hpe:ps= []
   ·have hp0:¬(0:Int)<(ps.length:Int):=by rw [hpe];simp
    have cK:=ae (show os=np v (l.take (k+1)) by
     rw [mW.out,kF.out];unfold jc;rw [mY.out,if_pos hpe]
     exact(List.append_nil _).symm)
    clear hpe;go_wp2_with fail;go_roundg (l.length-(k+1))
    case measure=>omega
    case rel=>exact⟨k+1,a',c',os,by omega,by go_num,rfl,rfl,cK.out,HO.out.ext Xt,Xt⟩
   ·have hp0:(0:Int)<(ps.length:Int):=by have:=List.length_pos_iff.2 hpe;omega
    have cK:=ae (show os++ [⟨ow.name,ps⟩]=np v (l.take (k+1)) by
     rw [mW.out,kF.out];unfold jc;rw [mY.out,if_neg hpe]
     rfl)
    have hlo:=HO.out.2;have hown:∀q,(Value.slice a' os.length c').ownBlock=some q->q<wo.heap.size:=by obtain⟨xs,h1,-⟩:=hlo;exact fun q hq=>(h1.lt q hq).2
    clear hpe hlo;obtain⟨a5,c5,ju,il,-,qd⟩:=cP.out.strs;simp only [Value.slice.injEq,true_and] at ju;obtain⟨rfl,rfl⟩:=ju;have J6:=ae (qd.keep (T:=fX wa.heap.size (fun _=>False) (.slice a' os.length c')) (fun _ _ _=>rfl) (fun q hq _=> .inr ⟨by omega,fun e=>by have:=hown q e;omega⟩));clear qd cP;go_wp2_with (at_builtin;refine PX (x:=⟨ow.name,ps⟩) (by rfl) wc.heap.size (by rfl) (by rfl) (by rfl) (HO.out.ext Xt) il (J6.out.ext Xt) aj (by omega) (by simp;omega) ?_;intro g6 bA w6 wX gM CY;have mg:=ae wX;clear wX);have bK:Ext wa w6:=Ext.grown (b:=wc.alloc _) Xt gM CY;go_roundg (l.length-(k+1))
    case measure=>omega
    case rel=>exact⟨k+1,_,_,os++ [⟨ow.name,ps⟩],by omega,by go_num,rfl,by rw [List.length_append];rfl,cK.out,by rw [List.length_append];exact mg.out.ext Xt,Xt⟩
  ·have cy:=ae (show os=np v l by rw [kF.out,List.take_of_length_le (by omega)])
   go_wp2_with fail;go_ret;rw [<-cy.out];obtain⟨a5,c5,ju,il,-,qd⟩:=HO.out.rows;simp only [Value.slice.injEq,true_and] at ju;obtain⟨rfl,rfl⟩:=ju;exact⟨a',c',rfl,il,(qd.ext Xt).keep (fun _ _ _=>rfl) (fun q hq _=> .inr (by rcases hq with h|h;exact h.2.elim;have:=aH.size;omega)),Xt⟩
theorem Tryz.abu:(prog.info? 224).map (fun i=>(i.zero,i.size,i.bytes))=some (some (.agg #[.string ⟨#[]⟩, .string ⟨#[]⟩]),2,32):=by kernel_rfl
abbrev Cf:=ah×ah
def xA (cs:List Cf):List Value:=cs.flatMap fun c=> [.string c.1, .string c.2]
theorem abv (cs ds:List Cf):xA (cs++ds)=xA cs++xA ds:=List.flatMap_append
theorem SF:∀(cs:List Cf) (i:Nat) (h:i<cs.length),(xA cs)[i*2]? =some (.string cs[i].1)/\ (xA cs)[i*2+1]? =some (.string cs[i].2)
 | [],i,h=>by simp at h
 |c::r,0,_=>⟨rfl,rfl⟩
 |c::r,i+1,h=>by have:=SF r i (by simpa using h);rw [show (i+1)*2=i*2+1+1 by omega];exact this
def rS (w:World) (S:az) (cs:List Cf) (p:au):Prop:=
 cs= []\/∃b o,p=some ⟨b,o,none⟩/\S b/\∀i (h:i<cs.length),w.cell? ⟨b,o+i*2,none⟩=some (.string cs[i].1)/\w.cell? ⟨b,o+i*2+1,none⟩=some (.string cs[i].2)
theorem rS.ext {w w':World} {S:az} {cs:List Cf} {p:au} (h:rS w S cs p) (e:Ext w w'):rS w' S cs p:=by
 rcases h with h|⟨b,o,rfl,hS,hc⟩
 ·exact .inl h
 ·exact .inr ⟨b,o,rfl,hS,fun i h=>⟨e.cell (hc i h).1,e.cell (hc i h).2⟩⟩
theorem rS.mono {w:World} {S T:az} {cs:List Cf} {p:au} (h:rS w S cs p) (k:∀b,S b->T b):rS w T cs p:=by
 rcases h with h|⟨b,o,rfl,hS,hc⟩
 ·exact .inl h
 ·exact .inr ⟨b,o,rfl,k b hS,hc⟩
def qU (w:World) (base:Nat) (v:Value) (n:Nat) (cs:List Cf):Prop:=cs.length=n/\w.ownsRow base 224 2 v n (xA cs)
theorem qU.nil (w:World) (base:Nat):qU w base (.slice none 0 0) 0 []:=⟨rfl,World.ownsRow_nil _ _ _ _⟩
theorem qU.ext {w w':World} {base:Nat} {v:Value} {n:Nat} {cs:List Cf} (h:qU w base v n cs) (e:Ext w w'):qU w' base v n cs:=⟨h.1,eD h.2 e⟩
theorem qU.rows {w:World} {base:Nat} {v:Value} {n:Nat} {cs:List Cf} (h:qU w base v n cs):∃a cap,v= .slice a n cap/\aM a n cap/\rS w (fun b=>base<=b) cs a:=by
 obtain⟨h0,hl,h1⟩:=h;rcases h1 with⟨hv,hn⟩|⟨g,cap,cur,hv,hb,hg,hnc,hcm,hcs,ht⟩
 ·subst hn
  exact⟨none,0,hv,aM.nil, .inl (List.length_eq_zero_iff.1 h0)⟩
 ·refine⟨some ⟨g,0,none⟩,cap,hv,⟨hnc,hcm,by simp⟩, .inr ⟨g,0,rfl,hb,fun i hi=> ?_⟩⟩
  have hx:∀j u,(xA cs)[j]? =some u->w.cell? ⟨g,j,none⟩=some u:=by
   intro j u hj;rw [cell_of_row w g j cur _ _ hg];rw [<-ht,List.getElem?_take] at hj
   split at hj
   ·simpa using hj
   ·cases hj
  obtain⟨c0,c1⟩:=SF cs i hi;rw [Nat.zero_add];exact⟨hx _ _ c0,hx _ _ c1⟩
theorem abw {w:World} {k base e size n:Nat} {vs:Array Value} {T:TypeId} {v:Value} {xs:List Value} (hB:af w k vs T) (h:w.ownsRow base e size v n xs) (hne:T≠e):∀g,v.ownBlock=some g->k≠g:=by
 rintro g hg rfl;obtain⟨q1,z1,e1⟩:=Aj h k hg;unfold af at hB;rw [hB] at e1;simp only [Option.some.injEq,Obj.cells.injEq] at e1;exact hne e1.2.1
theorem abx {W:World} {ops:Array Oper} {rest:List Oper} {o:Oper} {a:Act} {Q:Exit->Act->World->Prop} {base n:Nat} {vl:Value} {l:List Cf} {x y:ah} (hgd:o.guard=none) (B:Nat) {s t:Operand}
 (ho:o.op= .call {callee:= .builtin .append,args:= #[s,t],argTypes:= #[137,137]}) (hs:a.eval s=vl) (hx:a.eval t= .slice (some ⟨B,0,none⟩) 1 1)
 (hI:qU W base vl n l) (hB:af W B #[.string x, .string y] 224) (hn:n<=1073741824) (hbase:base<=W.heap.size)
 (h:∀g cap w',qU w' base (.slice (some ⟨g,0,none⟩) (n+1) cap) (n+1) (l++ [(x,y)])->W.grownBy w' vl.ownBlock-> (∀k,vl.ownBlock=some k->base<=k)->wpList prog ops Q rest (a.put o.dst (.slice (some ⟨g,0,none⟩) (n+1) cap)) w'):wpList prog ops Q (o::rest) a W:=by
 obtain⟨j0,hj,hy0,hy1,hy2⟩:=info_parts Tryz.abu;refine wpList_plain hgd fun _ hK=>wp_append_lies _ s t _ ho base 224 j0 _ 2 32 underlying137 hj hy0 hy1 hy2 rfl (by decide) vl n (xA l) hs hI.2 ⟨B,0,none⟩ 1 1 [.string x, .string y] hx (by rfl) (World.news_of_block (cs:= #[.string x, .string y]) (t:=224) (fr:=(0,0)) hB) (by simp [Value.oneCell']) (by omega) (by unfold maxLen;omega) (by omega) hbase _ rfl ?_;intro g cap w' hown hgrow hat hlt;exact hK _ _ (h g cap w' ⟨by simp [hI.1],by rw [abv];exact hown⟩ hgrow (fun k hk=>(hI.2.lt k hk).1))
def aby (r:List Cf) (w:World) (e:Ending) (w':World):Prop:=
 ∃a c,e= .returned (.slice a r.length c)/\aM a r.length c/\rS w' (fun b=>w.heap.size<=b) r a/\Ext w w'
theorem abz (v want:V) (who:ah) (l:List Ow) {k:Nat} (h:k<l.length):ja v (l.take (k+1)) who want=ja v (l.take k) who want++vg v want who l[k]:=by
 unfold ja;rw [List.take_succ_eq_append_getElem h,List.flatMap_append];simp
theorem abA (v want:V) (who:ah) (o:Ow):(vg v want who o).length<=o.paths.length:=by
 unfold vg
 split
 ·simp
 ·rw [List.length_map];exact List.length_filter_le _ _
theorem abB (v want:V) (who:ah) (l:List Ow):(ja v l who want).length<=cw l:=by
 induction l with
 |nil=>simp [ja]
 |cons o r ih=>
  unfold ja cw at ih⊢;rw [List.flatMap_cons,List.length_append,List.map_cons,List.sum_cons];have:=abA v want who o;have:=Ow.qH o;omega
theorem abC (l:List Ow) (k:Nat):cw (l.take k)<=cw l:=Kv Ow.size l k
theorem PR (v:V) (ka:au) (kc:Nat) (la:au) (lc:Nat) (S:az) (l:List Ow) (a:au) (c:Nat) (T:az) (who:ah) (want:V) (kb:au) (kd:Nat) (lb:au) (ld:Nat) (U:az) (w:World)
 (jH:v.size<=1000000000) (hwz:want.size<=1000000000) (cX:cw l<=2097152) (hin:v.In w S ka kc la lc) (hjn:cx w T l a) (hkn:want.In w U kb kd lb ld) (hm:fZ w):
 Calls prog 128 #[v.val ka kc la lc, .slice a l.length c, .string who,want.val kb kd lb ld] w (aby (ja v l who want) w):=by
 have hlen:=tQ l;have aJ:=ae hin;have aU:=ae hjn;have j4:=ae hkn;clear hin hjn hkn;go_enter func128,ntmps128;go_upto_region 2 with fail
 refine aI (R:=fun wx=>aD wx w.heap.size v ka kc la lc/\aD wx (w.heap.size+1) want kb kd lb ld/\Ext w wx) ⟨aj,aj,Xt⟩ ?_;rintro wa ⟨ag,ai,aH⟩;have kG:=aH.size;go_wp2_with fail
 go_loopg [9,16] l.length (fun g s9 i wr=>∃(k:Nat) (a':au) (c':Nat) (cs:List Cf),k<=l.length/\i= .int .i64 k/\g=l.length-k/\s9= .slice a' cs.length c'/\cs=ja v (l.take k) who want/\qU wr wa.heap.size (.slice a' cs.length c') cs.length cs/\Ext wa wr)
 case atStart=>exact⟨0,none,0, [],Nat.zero_le _,rfl,rfl,rfl,rfl,qU.nil _ _,Xt⟩
 case round=>
  obtain⟨wo,rfl⟩:∃x,x=wr:=⟨_,rfl⟩;obtain⟨k,a',c',cs,hk,rfl,rfl,rfl,hcs,hO,hx⟩:=hrel;have wW:=ae hcs;have HO:=ae hO;have J3:=hx.size;have dJ:Ext w wo:=aH.trans hx;clear hcs hO;by_cases hlt:k<l.length
  ·obtain⟨b,o,rfl,o8,pa,pc,d0,d1,hsl,hst⟩:=(aU.out.ext aH).item hlt
   have d0:=hx.cell d0;have d1:=hx.cell d1;have jt:=qG (List.getElem_mem hlt);have hpl:=Ow.qH l[k];have rQ:=ae (fun(x:ah) (h:x∈ (l[k]).paths)=>show x.size<=2097152 from by have:=Ow.AE h;omega);have mW:=ae (abz v want who l hlt);have hcz:(cs++vg v want who l[k]).length<=2097152:=by rw [wW.out,<-mW.out];have:=abB v want who (l.take (k+1));have:=abC l (k+1);omega
   obtain⟨ow,how⟩:∃ow,l[k]=ow:=⟨_,rfl⟩;rw [how] at d0 d1 hsl hst hpl rQ mW jt hcz;have aP:=ae hst;clear how hst;by_cases mX:ow.name=who
   ·have hnb:=qL mX
    have cK:=ae (show cs=ja v (l.take (k+1)) who want by
     rw [mW.out,wW.out];unfold vg;rw [if_pos mX]
     exact(List.append_nil _).symm)
    clear mX;go_wp2_with fail;go_roundg (l.length-(k+1))
    case measure=>omega
    case rel=>exact⟨k+1,a',c',cs,by omega,by go_num,rfl,rfl,cK.out,HO.out.ext Xt,Xt⟩
   ·have hnb:=qM mX
    have SG:=ae (show vg v want who ow=(ow.paths.filter (eA v want)).map fun q=>(ow.name,q) from if_neg mX);clear mX;go_upto_region 5 with fail
    refine aI (R:=fun wx=>af wx wo.heap.size #[.string ow.name, .slice pa ow.paths.length pc] 58/\Ext wo wx) ⟨aj,Xt⟩ ?_;rintro wb ⟨dh,aO⟩;have ag9:Ext wa wb:=hx.trans aO;have xB:=ae (HO.out.ext aO);obtain⟨eO,eP,eQ⟩:=dh.see;go_wp2_with fail
    go_loopg [9,27] ow.paths.length (fun g s9 i wr=>∃(j:Nat) (a':au) (c':Nat) (ds:List Cf),j<=ow.paths.length/\i= .int .i64 j/\g=ow.paths.length-j/\s9= .slice a' ds.length c'/\ds=cs++((ow.paths.take j).filter (eA v want)).map (fun q=>(ow.name,q))/\qU wr wa.heap.size (.slice a' ds.length c') ds.length ds/\af wr wo.heap.size #[.string ow.name, .slice pa ow.paths.length pc] 58/\Ext wa wr)
    case atStart=>exact⟨0,a',c',cs,Nat.zero_le _,rfl,rfl,rfl,by simp,xB.out.ext Xt,aj,Xt⟩
    case round=>
     obtain⟨wi,rfl⟩:∃x,x=wr:=⟨_,rfl⟩;clear dh eO eP eQ xB;obtain⟨j,a2,c2,ds,hj,rfl,rfl,rfl,hds,SH,dh,hx2⟩:=hrel;have SI:=aP.out.ext hx2;have GN:=ae hds;have LD:=ae SH;have Ka:Ext w wi:=aH.trans hx2;have rV:=af.ext hx2 ag;have hBw:=af.ext hx2 ai;have hz2:=hx2.size;obtain⟨hc0,aw,hl0⟩:=rV.see;obtain⟨hc1,aA,ay⟩:=hBw.see;obtain⟨eO,eP,eQ⟩:=dh.see;clear hds SH;by_cases hjl:j<ow.paths.length
     ·obtain⟨b2,o2,rfl,uV,hC⟩:=SI.resolve_left (by intro h;rw [h] at hjl;simp at hjl)
      have e0:=hC j hjl;have uR:=rQ.out _ (List.getElem_mem hjl);have Ht:=ae (List.take_succ_eq_append_getElem hjl);obtain⟨q,hq⟩:∃q,ow.paths[j]=q:=⟨_,rfl⟩;rw [hq] at e0 uR Ht;clear hC hq SI;go_wp2_with fail;(refine(PK v ka kc la lc S want kb kd lb ld U q _ jH hwz (aJ.out.ext Xt) (j4.out.ext Xt) (by omega) (hm.ext Xt)).mono ?_)
      cases bS:eA v want q with
      |false=>
       have cK:=ae (show ds=cs++((ow.paths.take (j+1)).filter (eA v want)).map (fun q=>(ow.name,q)) by
        rw [Ht.out,List.filter_append,GN.out];simp [bS])
       rintro e w3 ⟨rfl,h3⟩;have vr:=af.ext (w':=w3) Xt dh;have LF:Ext wi w3:=Xt;clear bS h3 hc0 aw hl0 hc1 aA ay eO eP eQ;go_wp2_with fail;go_roundg (ow.paths.length-(j+1))
       case measure=>omega
       case rel=>exact⟨j+1,a2,c2,ds,by omega,by go_num,rfl,rfl,cK.out,LD.out.ext Xt,aj,Xt⟩
      |true=>
       have cK:=ae (show ds++ [(ow.name,q)]=cs++((ow.paths.take (j+1)).filter (eA v want)).map (fun q=>(ow.name,q)) by
        rw [Ht.out,List.filter_append,GN.out];simp [bS])
       have hdl:ds.length<=2097152:=by have h1:=congrArg List.length GN.out;rw [List.length_append,List.length_map] at h1;have h2:((ow.paths.take j).filter (eA v want)).length<= (ow.paths.filter (eA v want)).length:=(List.Sublist.filter _ (List.take_sublist _ _)).length_le;rw [List.length_append,SG.out,List.length_map] at hcz;omega
       rintro e w3 ⟨rfl,h3⟩;have vr:=af.ext (w':=w3) Xt dh;have LF:Ext wi w3:=Xt;have hz3:=LF.size;clear bS h3 hc0 aw hl0 hc1 aA ay eO eP eQ;obtain⟨eO,eP,eQ⟩:=vr.see;go_upto_region 10 with fail
       refine aI (R:=fun wx=>Ext w3 wx) (by exact Xt) ?_;clear eO eP eQ;rintro wc fh;have LG:=af.ext fh vr;have zu:Ext wi wc:=LF.trans fh;have PW:Ext wa wc:=hx2.trans zu;have lD:=ae (LD.out.ext zu);have o9:=fh.size;have hap:=abw LG lD.out.2 (by decide);have jS:=ae hap;clear hap fh;obtain⟨eO,eP,eQ⟩:=LG.see;go_wp2_with (at_builtin;refine abx (x:=ow.name) (y:=q) (by rfl) wc.heap.size (by rfl) (by rfl) (by rfl) (lD.out.ext Xt) aj (by omega) (by simp;omega) ?_;intro g6 bA w6 wX gM CY;have mg:=ae wX;clear wX);have bK:Ext wa w6:=Ext.grown (b:=wc.alloc _) Xt gM CY;have aha:af w6 wo.heap.size #[.string ow.name, .slice (some ⟨b2,o2,none⟩) ow.paths.length pc] 58:=af.grown (w:=wc.alloc _) (af.alloc LG _) gM (fun e=>jS.out _ e.symm rfl);go_roundg (ow.paths.length-(j+1))
       case measure=>omega
       case rel=>exact⟨j+1,_,_,ds++ [(ow.name,q)],by omega,by go_num,rfl,by rw [List.length_append];rfl,cK.out,by rw [List.length_append];exact mg.out.ext Xt,aj,Xt⟩
     ·have cK:=ae (show ds=ja v (l.take (k+1)) who want by
       rw [mW.out,SG.out,GN.out,wW.out,List.take_of_length_le (show ow.paths.length<=j by omega)])
      go_wp2_with fail;go_roundg (l.length-(k+1))
      case measure=>omega
      case rel=>exact⟨k+1,a2,c2,ds,by omega,by go_num,rfl,rfl,cK.out,LD.out.ext Xt,Xt⟩
  ·have cy:=ae (show cs=ja v l who want by rw [wW.out,List.take_of_length_le (by omega)])
   go_wp2_with fail;go_ret;rw [<-cy.out];obtain⟨a5,c5,ju,il,qd⟩:=HO.out.rows;simp only [Value.slice.injEq,true_and] at ju;obtain⟨rfl,rfl⟩:=ju;exact⟨a',c',rfl,il,(qd.mono (fun b hb=>by omega)).ext Xt,Xt⟩
theorem JT:∀a b:List UInt8,Lib.compareBytes a b<0↔Op.bytesLess a b=true
 | [], []=>by simp [Lib.compareBytes,Op.bytesLess]
 | [],_::_=>by simp [Lib.compareBytes,Op.bytesLess]
 |_::_, []=>by simp [Lib.compareBytes,Op.bytesLess]
 |x::a,y::b=>by
  rw [Lib.compareBytes,Op.bytesLess];have ih:=JT a b;by_cases h1:x<y
  ·simp [h1]
  ·by_cases h2:y<x
   ·have h3:x≠y:=fun e=>h1 (by rw [e] at h2⊢;exact h2)
    simp [h1,h2,h3]
   ·have h3:x=y:=by
     have:=UInt8.le_antisymm (UInt8.not_lt.1 h2) (UInt8.not_lt.1 h1);exact this
    subst h3;simp [h1,ih]
theorem Yo (v:V) (ka:au) (kc:Nat) (la:au) (lc:Nat) (S:az) (want:V) (kb:au) (kd:Nat) (lb:au) (ld:Nat) (T:az) (B D:Nat) (q:ah) (w:World) (jH:v.size<=1000000000) (hwz:want.size<=1000000000)
 (hB:aD w B v ka kc la lc) (hD:aD w D want kb kd lb ld) (hin:v.In w S ka kc la lc) (hjn:want.In w T kb kd lb ld) (hq:q.size<=1073741824) (hm:fZ w):
 Calls prog 130 #[.string q, .pointer (some ⟨B,0,none⟩), .pointer (some ⟨D,0,none⟩)] w fun e w'=>e= .returned (.bool (eA v want q))/\Ext w w':=by
 have aJ:=ae hin;have aU:=ae hjn;clear hin hjn;obtain⟨hc0,aw,hl0⟩:=hB.see;obtain⟨hc1,aA,ay⟩:=hD.see;go_enter func130,ntmps130;go_wp2_with fail;(refine(PK v ka kc la lc S want kb kd lb ld T q _ jH hwz (aJ.out.ext Xt) (aU.out.ext Xt) hq (hm.ext Xt)).mono ?_);rintro e w1 ⟨rfl,h1⟩;go_wp2_with fail;go_ret;exact⟨rfl,Xt⟩
theorem Yp (p q:ah) (B:Nat) (w:World) (hB:af w B #[.string p] 9) (hp:p.size<=1073741824) (hq:q.size<=1073741824):
 Calls prog 136 #[.string q, .pointer (some ⟨B,0,none⟩)] w fun e w'=>e= .returned (.bool (qK p q))/\Ext w w':=by
 obtain⟨hc0,aw,hl0⟩:=hB.see;have Hn:=ae (show qK p q=(decide (p=q)||fV p q||fV q p) from rfl);by_cases kJ:p=q
 ·have hb:=qL kJ
  have Hr:=ae (show qK p q=true by rw [Hn.out,decide_eq_true kJ];rfl);clear kJ;go_enter func136,ntmps136;go_wp2_with fail;go_ret;exact⟨dv Hr.out.symm,Xt⟩
 ·have hb:=qM kJ
  have Hr:=ae (show qK p q=(fV p q||fV q p) by rw [Hn.out,decide_eq_false kJ];rfl);clear kJ
  cases h1:fV p q with
  |true=>
   have H1:=ae h1;clear h1;go_enter func136,ntmps136;go_wp2_with fail;(refine(tV p q _ hp).mono ?_);rw [H1.out];rintro e w1 ⟨rfl,rfl⟩;go_wp2_with fail;go_ret;exact⟨dv (by rw [Hr.out,H1.out];rfl),Xt⟩
  |false=>
   have H1:=ae h1;clear h1;go_enter func136,ntmps136;go_wp2_with fail;(refine(tV p q _ hp).mono ?_);rw [H1.out];rintro e w1 ⟨rfl,rfl⟩;go_wp2_with fail;(refine(tV q p _ hq).mono ?_);rintro e w2 ⟨rfl,rfl⟩;go_wp2_with fail;go_ret;exact⟨dv (by rw [Hr.out,H1.out];rfl),Xt⟩
theorem PL (p:ah) (ow:Ow) (pa:au) (pc B:Nat) (S:az) (w:World) (hB:af w B #[.string p] 9) (hp:p.size<=1073741824) (jt:ow.size<=2097152) (hst:bR w S pa ow.paths):
 Calls prog 134 #[.agg #[.string ow.name, .slice pa ow.paths.length pc], .pointer (some ⟨B,0,none⟩)] w fun e w'=>e= .returned (.bool (ow.paths.any (qK p)))/\Ext w w':=by
 have uU:∀(fn:Fn) (first cap:Array Value) (w:World),(Instr.makeFunc fn first cap).run prog w= .ok (.func fn first cap) w:=fun _ _ _ _=>rfl;have hpl:=ow.qH;have aP:=ae hst;clear hst;go_enter func134,ntmps134;go_upto_region 1 with fail
 refine aI (R:=fun wx=>af wx w.heap.size #[.string ow.name, .slice pa ow.paths.length pc] 58/\Ext w wx) ⟨aj,Xt⟩ ?_;rintro wa ⟨ag,aH⟩
 have yR:vo 136 #[.pointer (some ⟨B,0,none⟩)] (qK p) ow.paths wa:=
  ⟨enters_of func136 (by kernel_rfl) rfl,fun W x hx e=>Yp p x B W (af.ext (aH.trans e) hB) hp (by have:=Ow.AE hx;omega)⟩
 obtain⟨hc0,aw,hl0⟩:=ag.see;go_wp2_with fail;(refine(Yq ow.paths pa _ pc S 136 _ _ _ rfl (by omega) (aP.out.ext Xt) (yR.later Xt)).mono ?_);rintro e w1 ⟨rfl,h1⟩;go_wp2_with fail;go_ret;exact⟨rfl,Xt⟩
theorem Yr (l:List Ow) (p:ah) (a:au) (n c B:Nat) (S:az) (w:World) (hn:l.length=n) (hbig:n<=1073741824) (jt:∀o∈l,o.size<=2097152) (hin:cx w S l a) (hB:af w B #[.string p] 9) (hp:p.size<=1073741824):
 Calls prog 181 #[.slice a n c, .func (.func 134) #[] #[.pointer (some ⟨B,0,none⟩)]] w fun e w'=>∃r:Int,e= .returned (.int .i64 r)/\p9 l p=decide (0<=r)/\Ext w w':=by
 have aJ:=ae hin;have CQ:=ae jt;clear hin jt;subst hn;go_enter func181,ntmps181;go_wp2_with fail
 go_loopg [5,8] l.length (fun gg _ i wr=>∃k:Nat,k<=l.length/\i= .int .i64 k/\gg=l.length-k/\p9 (l.take k) p=false/\Ext w wr)
 case atStart=>exact⟨0,Nat.zero_le _,rfl,rfl,by simp [p9],Xt⟩
 case round=>
  obtain⟨k,hk,rfl,rfl,hall,hx⟩:=hrel;have wV:=ae hall;clear hall;by_cases hlt:k<l.length
  ·obtain⟨b,o,rfl,hS,pa,pc,d0,d1,hsl,hst⟩:=(aJ.out.ext hx).item hlt
   have hz:=CQ.out _ (List.getElem_mem hlt);have Ht:=ae (List.take_succ_eq_append_getElem hlt);have Hm:=ae (List.getElem_mem hlt);have aP:=ae hst;obtain⟨ow,how⟩:∃ow,l[k]=ow:=⟨_,rfl⟩;rw [how] at d0 d1 hz Ht Hm aP;clear how hst hsl
   cases hq:ow.paths.any (qK p) with
   |true=>
    have Hr:=ae (show p9 l p=true from List.any_eq_true.2 ⟨ow,Hm.out,hq⟩);go_wp2_with fail;(refine(PL p ow pa pc B S _ (af.ext (w:=wr) Xt (af.ext hx hB)) hp hz (aP.out.ext Xt)).mono ?_);rw [hq];rintro e w2 ⟨rfl,h2⟩;go_wp2_with fail;go_ret;exact⟨_,rfl,by rw [Hr.out];simp,Xt⟩
   |false=>
    have Hr:=ae (show p9 (l.take (k+1)) p=false by
     have:=wV.out;unfold p9 at this⊢;rw [Ht.out,List.any_append,this]
     simp [hq])
    go_wp2_with fail;(refine(PL p ow pa pc B S _ (af.ext (w:=wr) Xt (af.ext hx hB)) hp hz (aP.out.ext Xt)).mono ?_);rw [hq];rintro e w2 ⟨rfl,h2⟩;go_wp2_with fail;go_roundg (l.length-(k+1))
    case measure=>omega
    case rel=>exact⟨k+1,by omega,by go_num,rfl,Hr.out,Xt⟩
  ·have cy:=ae (show p9 l p=false by have:=wV.out;rwa [List.take_of_length_le (by omega)] at this)
   go_wp2_with fail;go_ret;exact⟨_,rfl,by rw [cy.out];rfl,Xt⟩
theorem Yt (l:List Ow) (p:ah) (a:au) (n c B:Nat) (S:az) (w:World) (hn:l.length=n) (hbig:n<=1073741824) (jt:∀o∈l,o.size<=2097152) (hin:cx w S l a) (hB:af w B #[.string p] 9) (hp:p.size<=1073741824):
 Calls prog 133 #[.slice a n c, .func (.func 134) #[] #[.pointer (some ⟨B,0,none⟩)]] w fun e w'=>e= .returned (.bool (p9 l p))/\Ext w w':=by
 go_enter func133,ntmps133;go_wp2_with fail;(refine(Yr l p a n c B S _ hn hbig jt (hin.ext Xt) (af.ext (w:=w) Xt hB) hp).mono ?_);rintro e w1 ⟨r,rfl,hr,h1⟩;have Hr:=ae hr;clear hr;go_wp2_with fail;go_ret;exact⟨dv Hr.out.symm,Xt⟩
theorem JU (ow:Ow) (pa:au) (pc:Nat) (who:ah) (w:World):
 Calls prog 142 #[.agg #[.string ow.name, .slice pa ow.paths.length pc], .string who] w fun e w'=>e= .returned (.int .i64 (Lib.compareBytes ow.name.data.toList who.data.toList))/\Ext w w':=by
 go_enter func142,ntmps142;go_wp2_with fail;(refine(Tryz.strings_Compare ow.name who _).mono ?_);rintro e w1 ⟨rfl,rfl⟩;go_wp2_with fail;go_ret;exact⟨rfl,Xt⟩
theorem Yu (l:List Ow) (who:ah) (a:au) (n c:Nat) (S:az) (w:World) (hn:l.length=n) (hbig:n<=1073741824) (hr:cz (l.map Ow.name)) (hin:cx w S l a):
 Calls prog 141 #[.slice a n c, .string who, .func (.func 142) #[] #[]] w fun e w'=>∃fb,e= .returned (.tuple #[.int .i64 (mS l who), .bool fb])/\Ext w w':=by
 have aJ:=ae hin
 have AV:=ae (show∀s t (h:t<l.length) (hst:s<=t),bC l[t].name who=true->bC (l[s]'(by omega)).name who=true from fun s t h hst hl=>by
  by_cases e:s=t
  ·subst e;exact hl
  ·have:=yK hr (i:=s) (j:=t) (by simp;omega) (by simpa using h) (by omega)
   simp only [List.getElem_map] at this
   exact tS this hl)
 clear hin hr;subst hn;go_enter func141,ntmps141;go_wp2_with fail
 go_loopg [9,10] l.length (fun gg s9 CR wr=>∃lo hi:Nat,s9= .int .i64 lo/\CR= .int .i64 hi/\lo<=hi/\hi<=l.length/\hi-lo<=gg/\ (∀t (h:t<l.length),t<lo->bC l[t].name who=true)/\ (∀t (h:t<l.length),hi<=t->bC l[t].name who=false)/\Ext w wr)
 case atStart=>exact⟨0,l.length,rfl,rfl,Nat.zero_le _,Nat.le_refl _,by omega,fun t h h0=>absurd h0 (Nat.not_lt_zero _),fun t h h0=>by omega,Xt⟩
 case round=>
  obtain⟨lo,hi,rfl,rfl,JV,hin,hgg,h1,h2,hx⟩:=hrel;have H1:=ae h1;have H2:=ae h2;clear h1 h2;by_cases hlt:lo<hi
  ·have hmid:(lo+hi)/2<l.length:=by omega
   obtain⟨b,o,rfl,hS,pa,pc,d0,d1,hsl,hst⟩:=(aJ.out.ext hx).item hmid;have Hc:=ae (JT (l[(lo+hi)/2]).name.data.toList who.data.toList);have yS:=ae (show bC (l[(lo+hi)/2]).name who=Op.bytesLess (l[(lo+hi)/2]).name.data.toList who.data.toList by unfold bC;rw [ByteArray.toList_eq,ByteArray.toList_eq]);have hm0:(0:Int)<= ((lo:Int)+(hi:Int))/2:=by omega
   have CC:((lo:Int)+(hi:Int))/2<(l.length:Int):=by omega
   have CS:(((lo:Int)+(hi:Int))/2).toNat=(lo+hi)/2:=by omega
   clear hst hsl;by_cases hcm:Lib.compareBytes (l[(lo+hi)/2]).name.data.toList who.data.toList<0
   ·have Hl:=ae (show bC (l[(lo+hi)/2]).name who=true by rw [yS.out];exact Hc.out.1 hcm)
    go_wp2_with fail;(refine(JU l[(lo+hi)/2] pa pc who _).mono ?_);rintro e w2 ⟨rfl,h2⟩;go_wp2_with fail;go_roundg (hi-((lo+hi)/2+1))
    case measure=>omega
    case rel=>exact⟨(lo+hi)/2+1,hi,by go_num,rfl,by omega,hin,Nat.le_refl _,fun t h ht=>AV.out t _ hmid (by omega) Hl.out,H2.out,Xt⟩
   ·have Hl:=ae (show bC (l[(lo+hi)/2]).name who=false by
     rw [yS.out]
     cases hb:Op.bytesLess (l[(lo+hi)/2]).name.data.toList who.data.toList with
     |false=>rfl
     |true=>exact absurd (Hc.out.2 hb) hcm)
    go_wp2_with fail;(refine(JU l[(lo+hi)/2] pa pc who _).mono ?_);rintro e w2 ⟨rfl,h2⟩;go_wp2_with fail;go_roundg ((lo+hi)/2-lo)
    case measure=>omega
    case rel=>exact⟨lo,(lo+hi)/2,rfl,by go_num,by omega,by omega,Nat.le_refl _,H1.out,(fun t h ht=>by
     cases hb:bC l[t].name who with
     |false=>rfl
     |true=>have:=AV.out _ t h ht hb;rw [Hl.out] at this;cases this),Xt⟩
  ·obtain rfl:hi=lo:=by omega
   have hpos:hi=mS l who:=JW (ks:=l.map Ow.name) (by simpa using hin) (fun i h=>by simp only [List.getElem_map];exact H1.out i (by omega) h) (fun h=>by simp only [List.getElem_map];exact H2.out hi (by simpa using h) (Nat.le_refl _));have yT:=ae hpos;clear hpos;by_cases hend:hi<l.length
   ·have JX:(hi:Int)<(l.length:Int):=by omega
    obtain⟨b,o,rfl,hS,pa,pc,d0,d1,hsl,hst⟩:=(aJ.out.ext hx).item hend;clear hst hsl;go_wp2_with fail;(refine(JU l[hi] pa pc who _).mono ?_);rintro e w2 ⟨rfl,h2⟩;go_wp2_with fail;go_ret2;rw [<-yT.out];exact⟨_,rfl,Xt⟩
   ·have JX:¬(hi:Int)<(l.length:Int):=by omega
    go_wp2_with fail;go_ret2;rw [<-yT.out];exact⟨.inl rfl,Xt⟩
end Go.Proofs.YtlcebdaghmdkeabGreatDoor
