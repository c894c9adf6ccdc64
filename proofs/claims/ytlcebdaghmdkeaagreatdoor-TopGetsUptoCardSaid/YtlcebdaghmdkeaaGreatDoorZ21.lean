import Derived.Test.YtlcebdaghmdkeaaGreatDoorZ20
set_option linter.all false
set_option maxRecDepth 100000
set_option maxHeartbeats 64000000
namespace Go.Proofs.YtlcebdaghmdkeaaGreatDoor
open Go.Proofs.Tryz
open Go.RowKit
attribute [local go_sem↓] Go.wp_at_zero Go.wp_at_succ
def abk (f:ah->Bool) (ks:List ah) (r:Int):Prop:=
 (r= -1/\∀x∈ks,f x=false)\/∃k:Nat,r=(k:Int)/\∃h:k<ks.length,f ks[k]=true/\∀x∈ks.take k,f x=false
def uV (g:Nat) (lb:Array Value) (f:ah->Bool) (ks:List ah) (w:World):Prop:=
 (∀args w,(callFunc g args).run prog w= .ok (.enter g args) w)/\∀W x,x∈ks->Ext w W->Calls prog g (#[.string x]++lb) W fun e w'=>e= .returned (.bool (f x))/\Ext W w'
theorem uV.later {g:Nat} {lb:Array Value} {f:ah->Bool} {ks:List ah} {w W:World} (h:uV g lb f ks w) (e:Ext w W):uV g lb f ks W:=⟨h.1,fun W' x hx e'=>h.2 W' x hx (e.trans e')⟩
theorem Sp (ks:List ah) (a:aq) (n c:Nat) (S:aA) (g:Nat) (lb:Array Value) (f:ah->Bool) (w:World) (hn:ks.length=n) (hbig:n<=1073741824) (hst:bT w S a ks) (hg:uV g lb f ks w):
 Calls prog 115 #[.slice a n c, .func (.func g) #[] lb] w fun e w'=>∃r,e= .returned (.int .i64 r)/\abk f ks r/\Ext w w':=by
 obtain⟨eg,hcall⟩:=hg;have Hc:=ae hcall;clear hcall;subst hn;go_enter func115,ntmps115;go_wp2_with fail
 go_loopg [5,8] ks.length (fun gg _ i wr=>∃k:Nat,k<=ks.length/\i= .int .i64 k/\gg=ks.length-k/\ (∀x∈ks.take k,f x=false)/\Ext w wr)
 case atStart=>exact⟨0,Nat.zero_le _,rfl,rfl,by simp,Xt⟩
 case round=>
  obtain⟨k,hk,rfl,rfl,hall,hx⟩:=hrel;have wJ:=ae hall;clear hall;by_cases hlt:k<ks.length
  ·obtain⟨b,o,rfl,hS,hC⟩:=hst.resolve_left (by intro h;rw [h] at hlt;simp at hlt)
   have d0:=hx.cell (hC k hlt);have Hm:=ae (show ks[k]∈ks from List.getElem_mem hlt);have Ht:=ae (List.take_succ_eq_append_getElem hlt);obtain⟨p,hp⟩:∃p,ks[k]=p:=⟨_,rfl⟩;have Hp:=ae hp;rw [hp] at d0 Hm Ht;clear hp hC
   cases hq:f p with
   |true=>
    have Hq:=ae hq;go_wp2_with (go_at_fn g;refine(Hc.out _ p Hm.out Xt).mono ?_;rw [hq];rintro e w2 ⟨rfl,h2⟩);go_ret;exact⟨_,rfl, .inr ⟨k,rfl,hlt,by rw [Hp.out];exact Hq.out,wJ.out⟩,Xt⟩
   |false=>
    have Hq:=ae hq;go_wp2_with (go_at_fn g;refine(Hc.out _ p Hm.out Xt).mono ?_;rw [hq];rintro e w2 ⟨rfl,h2⟩);go_roundg (ks.length-(k+1))
    case measure=>omega
    case rel=>exact⟨k+1,by omega,by go_num,rfl,fun x hx=>by
     rw [Ht.out] at hx;rcases List.mem_append.1 hx with h|h
     ·exact wJ.out x h
     ·simp at h;rw [h];exact Hq.out,Xt⟩
  ·have cF:=ae (show∀x∈ks,f x=false from fun x hx=>wJ.out x (by rw [List.take_of_length_le (by omega)];exact hx))
   go_wp2_with fail;go_ret;exact⟨_,rfl, .inl ⟨rfl,cF.out⟩,Xt⟩
theorem Ye (ks:List ah) (a:aq) (n c:Nat) (S:aA) (g:Nat) (lb:Array Value) (f:ah->Bool) (w:World) (hn:ks.length=n) (hbig:n<=1073741824) (hst:bT w S a ks) (hg:uV g lb f ks w):
 Calls prog 81 #[.slice a n c, .func (.func g) #[] lb] w fun e w'=>e= .returned (.bool (ks.any f))/\Ext w w':=by
 go_enter func81,ntmps81;go_wp2_with fail;(refine(Sp ks a n c S g lb f _ hn hbig (hst.ext Xt) (hg.later Xt)).mono ?_);rintro e w1 ⟨r,rfl,hr,h1⟩
 have Hr:=ae (show ks.any f=decide (0<=r) by
  rcases hr with⟨rfl,h⟩|⟨k,rfl,hk,hf,-⟩
  ·rw [List.any_eq_false.2 (fun x hx=>by simp [h x hx])];rfl
  ·rw [List.any_eq_true.2 ⟨_,List.getElem_mem hk,hf⟩];simp)
 clear hr;go_wp2_with fail;go_ret;exact⟨dn Hr.out.symm,Xt⟩
theorem Sq {g:Nat} {T:TypeId}:∀(vs:List Value) (o:Nat) (w:World) (cur:Array Value),af w g cur T->∃cur',af (w.setCells g o vs) g cur' T/\cur'.size=cur.size/\∀q,q<o->cur'[q]? =cur[q]?
 | [],o,w,cur,h=>⟨cur,h,rfl,fun _ _=>rfl⟩
 |v::r,o,w,cur,h=>by obtain⟨c',h1,h2,h3⟩:=Sq r (o+1) _ _ (h.set o v);refine⟨c',h1,by rw [h2];simp,fun q hq=> ?_⟩;rw [h3 q (by omega),Array.getElem?_setIfInBounds];rw [if_neg (by omega)]
theorem PI (ks:List ah) (a:aq) (n c:Nat) (g:Nat) (lb:Array Value) (f:ah->Bool) (w0 w:World) (hS:ek w w0.heap.size (.slice a n c) n ks) (hbig:n<=1073741824) (hx0:Ext w0 w) (hg:uV g lb f ks w0):
 Calls prog 75 #[.slice a n c, .func (.func g) #[] lb] w fun e w'=>e= .returned (.slice a (ks.filter fun x=> !f x).length c)/\ek w' w0.heap.size (.slice a (ks.filter fun x=> !f x).length c) (ks.filter fun x=> !f x).length (ks.filter fun x=> !f x)/\Ext w0 w':=by
 obtain⟨a',c',he,hok,hlen,hst⟩:=hS.strs;simp only [Value.slice.injEq,true_and] at he;obtain⟨rfl,rfl⟩:=he;have aQ:=ae hst;have HS:=ae hS;obtain⟨eg,hcall⟩:=hg;have LH:=ae hcall;subst hlen;clear hS hcall;go_enter func75,ntmps75;go_wp2_with fail;(refine(Sp ks a _ c _ g lb f _ rfl hbig (aQ.out.ext Xt) ⟨eg,fun W x hx e=>LH.out W x hx (hx0.trans (Ext.trans (b:=w) Xt e))⟩).mono ?_);rintro e w1 ⟨r,rfl,hr,h1⟩;rcases hr with⟨rfl,hall⟩|⟨k0,rfl,gh,aw,hall⟩
 ·have yB:(ks.filter fun x=> !f x)=ks:=List.filter_eq_self.2 (fun x hx=>by simp [hall x hx])
  have LI:=ae yB;clear hall yB;go_wp2_with fail;go_ret;rw [LI.out];exact⟨rfl,HS.out.ext Xt,Ext.trans hx0 Xt⟩
 ·obtain⟨b,hab,hbb,GY,hg0,hnc,hcm,hcs,ht⟩:∃b,a=some ⟨b,0,none⟩/\w0.heap.size<=b/\∃cur:Array Value,w.heap[b]? =some (.cells cur 9 (0,0))/\ks.length<=c/\c<=maxLen/\cur.size=c*1/\cur.toList.take (ks.length*1)=ks.map Value.string:=by
   rcases HS.out.2.2 with⟨-,h0⟩|⟨b,cap,cur,hv,hb,hg,h1,h2,h3,h4⟩
   ·omega
   ·simp only [Value.slice.injEq,true_and] at hv
    obtain⟨rfl,rfl⟩:=hv;exact⟨b,rfl,hb,cur,hg,h1,h2,h3,h4⟩
  subst hab;have hx1:Ext w w1:=Xt;have ag8:Ext w0 w1:=hx0.trans hx1;have dY:=(Array.getElem?_eq_some_iff.1 hg0).1;have ai:af w1 b GY 9:=af.ext hx1 hg0
  have jK:=ae (show∀q (h:q<ks.length),GY[q]? =some (.string ks[q]) from fun q h=>by
   have h5:(GY.toList.take (ks.length*1))[q]? =(ks.map Value.string)[q]? :=by rw [ht]
   rw [List.getElem?_take,if_pos (by omega)] at h5
   simpa [h] using h5)
  have Ss:=ae (show (ks.take (k0+1)).filter (fun x=> !f x)=ks.take k0 by
   rw [List.take_succ_eq_append_getElem gh,List.filter_append,List.filter_eq_self.2 (fun x hx=>by simp [hall x hx])]
   simp [aw])
  have hneg:((k0:Int)== -1)=false:=beq_eq_false_iff_ne.2 (by omega);have hcm2:c<=9223372036854775807:=hcm;clear hall h1 hst hx0 hg0 ht aw HS aQ;go_wp2_with fail
  go_loopg [5,6,7] ks.length (fun gg s5 s6 _ wr=>∃(i j:Nat) (cur:Array Value),s5= .int .i64 i/\s6= .int .i64 j/\i<j/\j<=ks.length/\ks.length-j<=gg/\af wr b cur 9/\cur.size=c/\ ((ks.take j).filter (fun x=> !f x)).length=i/\
   (∀q (h:q<i),cur[q]? =((ks.take j).filter (fun x=> !f x))[q]?.map Value.string)/\ (∀q (h:q<ks.length),j<=q->cur[q]? =some (.string ks[q]))/\ (∀q,q<ks.length->∃s,cur[q]? =some (.string s))/\Ext w0 wr)
  case atStart=>
   refine⟨k0,k0+1,GY,rfl,by go_num,by omega,by omega,by omega,aj,by omega,by rw [Ss.out];simp;omega,fun q h=> ?_,fun q h _=>jK.out q h,fun q h=>⟨_,jK.out q h⟩,Xt⟩;rw [Ss.out,jK.out q (by omega)];simp [h,show q<ks.length by omega]
  case round=>
   obtain⟨i,j,cur,rfl,rfl,hij,hj,hgg,hB,hcz,hfl,Sw,Sy,Sz,hx⟩:=hrel;have LJ:=ae Sw;have LK:=ae Sy;have GZ:=ae Sz;have vw:=ae hfl;clear Sw Sy Sz hfl;by_cases hlt:j<ks.length
   ·have De:=LK.out j hlt (Nat.le_refl _)
    have d0:wr.cell? ⟨b,j,none⟩=some (.string ks[j]):=by rw [hB.cells j];exact De
    have Hm:=ae (show ks[j]∈ks from List.getElem_mem hlt);have Ht:=ae (List.take_succ_eq_append_getElem hlt);have Hhj:=ae De;clear De;obtain⟨p,hp⟩:∃p,ks[j]=p:=⟨_,rfl⟩;have Hp:=ae hp;rw [hp] at d0 Hm Ht;clear hp
    cases hq:f p with
    |true=>
     have jI:=ae (show (ks.take (j+1)).filter (fun x=> !f x)=(ks.take j).filter (fun x=> !f x) by rw [Ht.out,List.filter_append];simp [hq]);go_wp2_with (go_at_fn g;refine(LH.out _ p Hm.out Xt).mono ?_;rw [hq];rintro e w2 ⟨rfl,h2⟩);go_roundg (ks.length-(j+1))
     case measure=>omega
     case rel=>exact⟨i,j+1,cur,rfl,by go_num,by omega,by omega,Nat.le_refl _,aj,hcz,by rw [jI.out];exact vw.out,by rw [jI.out];exact LJ.out,fun q h h2=>LK.out q h (by omega),GZ.out,Xt⟩
    |false=>
     have jI:=ae (show (ks.take (j+1)).filter (fun x=> !f x)=(ks.take j).filter (fun x=> !f x)++ [p] by rw [Ht.out,List.filter_append];simp [hq]);obtain⟨abl,SA⟩:=GZ.out i (by omega);have di:wr.cell? ⟨b,i,none⟩=some (.string abl):=by rw [hB.cells i];exact SA
     have abm:=hB.free i;have hiN:(i:Int)<(ks.length:Int):=by omega
     have ag9:i<ks.length:=by omega
     have lO:=hB.cells i;clear SA;go_wp2_with fail;go_at_fn g;(refine(LH.out _ p Hm.out Xt).mono ?_);rw [hq];rintro e w2 ⟨rfl,h2⟩;have ak:=af.ext (w':=w2) Xt hB;have di2:=Ext.cell (a:=wr) (b:=w2) Xt di;have hx2:Ext w0 w2:=Xt;have aha:=ak.free i;clear h2 lO di abm;go_wp2_with fail;go_roundg (ks.length-(j+1))
     case measure=>omega
     case rel=>
      refine⟨i+1,j+1,cur.setIfInBounds i (.string p),by go_num,by go_num,by omega,by omega,Nat.le_refl _,af.set ak i _,by simpa using hcz,by rw [jI.out,List.length_append,vw.out];rfl,fun q h=> ?_,fun q h h2=> ?_,fun q h=> ?_,Xt⟩
      ·rw [jI.out,Array.getElem?_setIfInBounds]
       by_cases vz:i=q
       ·subst vz
        rw [if_pos rfl,if_pos (by omega),List.getElem?_append_right (by rw [vw.out];exact Nat.le_refl _),vw.out];simp
       ·rw [if_neg vz,LJ.out q (by omega),List.getElem?_append_left (by rw [vw.out];omega)]
      ·rw [Array.getElem?_setIfInBounds,if_neg (by omega)]
       exact LK.out q h (by omega)
      ·rw [Array.getElem?_setIfInBounds]
       by_cases vz:i=q
       ·rw [if_pos vz,if_pos (by omega)];exact⟨p,rfl⟩
       ·rw [if_neg vz];exact GZ.out q h
   ·obtain rfl:j=ks.length:=by omega
    have yB:ks.filter (fun x=> !f x)=(ks.take ks.length).filter (fun x=> !f x):=by rw [List.take_of_length_le (Nat.le_refl _)]
    have LI:=ae yB;clear yB;obtain⟨j0,A6,hy0,hy1,hy2⟩:=info_parts Tryz.wU
    have hcl:∀ty,(Builtin.clear_ #[38] ty #[.slice (some ⟨b,i,none⟩) (ks.length-i) (c-i)]).run prog wr= .ok (.tuple #[]) (wr.setCells b i (List.replicate (ks.length-i) (.string ⟨#[]⟩))):=
     fun ty=>Lib.run_clear_slice wr _ _ ty (.string ⟨#[]⟩) underlying38 (fun w=>by simp [Go.zeroValue,typeInfo,A6,hy0]) rfl rfl b i _ _ (by omega) (fun t ht=>by obtain⟨s,hs⟩:=GZ.out (i+t) (by omega);rw [hB.cells,hs];rfl) (fun t ht=>hB.free _)
    have hi1:(0:Int)<= (i:Int):=by omega
    have hi2:(i:Int)<= (ks.length:Int):=by omega
    have hi3:(ks.length:Int)<= (c:Int):=by omega
    have hi4:(i:Int)<= (c:Int):=by omega
    have hi5:¬c=i:=by omega
    have hi6:i<=c:=by omega
    have Jj:i<=ks.length:=by omega
    obtain⟨abn,ak,ahb,SB⟩:=Sq (g:=b) (T:=9) (List.replicate (ks.length-i) (.string ⟨#[]⟩)) i wr cur hB;have abo:=ae SB;have hx2:Ext w0 (wr.setCells b i (List.replicate (ks.length-i) (.string ⟨#[]⟩))):=Ext.kA (by exact Xt) hbb _ _;clear A6 hy0 hy1 hy2 SB;go_wp2_with fail;go_ret;rw [LI.out,vw.out];refine⟨rfl,⟨vw.out,?_⟩,Xt⟩;refine eT (w:=wr.setCells b i (List.replicate (ks.length-i) (.string ⟨#[]⟩))) ⟨by rw [List.length_map,vw.out,Nat.mul_one], .inr ⟨b,c,abn,rfl,hbb,ak,by omega,hcm,by omega,?_⟩⟩ Xt;rw [Nat.mul_one];refine List.ext_getElem? fun q=> ?_;rw [List.getElem?_take]
    split
    ·rename_i vz
     rw [Array.getElem?_toList,abo.out q vz,LJ.out q vz,List.getElem?_map]
    ·rename_i vz
     rw [List.getElem?_eq_none (by rw [List.length_map,vw.out];omega)]
theorem PK {W:World} {ops:Array Oper} {rest:List Oper} {o:Oper} {a:Act} {Q:Exit->Act->World->Prop} {base n:Nat} {S:aA} {vl:Value} {l:List Ow} {x:Ow} {pa:aq} {pc:Nat} (hgd:o.guard=none) (B:Nat) {s t:Operand}
 (ho:o.op= .call {callee:= .builtin .append,args:= #[s,t],argTypes:= #[42,42]}) (hs:a.eval s=vl) (hx:a.eval t= .slice (some ⟨B,0,none⟩) 1 1)
 (hI:kz W base S vl n l) (hok:aO pa x.paths.length pc) (hv:bT W (fR base S vl) pa x.paths) (hB:af W B #[.string x.name, .slice pa x.paths.length pc] 69) (hn:n<=1073741824) (hbase:base<=W.heap.size)
 (h:∀g cap w',kz w' base S (.slice (some ⟨g,0,none⟩) (n+1) cap) (n+1) (l++ [x])->W.grownBy w' vl.ownBlock-> (∀k,vl.ownBlock=some k->base<=k)->wpList prog ops Q rest (a.put o.dst (.slice (some ⟨g,0,none⟩) (n+1) cap)) w'):wpList prog ops Q (o::rest) a W:=by
 obtain⟨j0,hj,hy0,hy1,hy2⟩:=info_parts Tryz.DG;obtain⟨hl0,xs,qC,wN⟩:=hI;refine wpList_plain hgd fun _ hK=>wp_append_lies _ s t _ ho base 69 j0 _ 2 40 underlying42 hj hy0 hy1 hy2 rfl (by decide) vl n xs hs qC ⟨B,0,none⟩ 1 1 [.string x.name, .slice pa x.paths.length pc] hx (by rfl) (World.news_of_block (cs:= #[.string x.name, .slice pa x.paths.length pc]) (t:=69) (fr:=(0,0)) hB) (by simp [Value.oneCell']) (by omega) (by unfold maxLen;omega) (by omega) hbase _ rfl ?_;intro g cap w' hown hgrow hat hlt;exact hK _ _ (h g cap w' (kz.push hl0 qC wN hok hv hown hgrow g rfl hat) hgrow (fun k hk=>(qC.lt k hk).1))
theorem abp {α β:Type} (f:α->Option β) (l:List α) {k:Nat} (h:k<l.length):(l.take (k+1)).filterMap f=(l.take k).filterMap f++(match f l[k] with|some x=> [x]|none=> []):=by
 rw [List.take_succ_eq_append_getElem h,List.filterMap_append];congr 1
 cases hf:f l[k]<;>simp [hf]
theorem abq (v:V) (ka:aq) (kc:Nat) (la:aq) (lc:Nat) (S:aA) (B:Nat) (q:ah) (w:World) (kP:v.size<=1073741824) (hB:aD w B v ka kc la lc) (hin:v.In w S ka kc la lc) (hq:q.size<=1073741824) (hm:fW w):
 Calls prog 94 #[.string q, .pointer (some ⟨B,0,none⟩)] w fun e w'=>e= .returned (.bool (!(bI v q).isSome))/\Ext w w':=by
 have aJ:=ae hin;clear hin;obtain⟨b,hb⟩:∃b,(bI v q).isSome=b:=⟨_,rfl⟩;obtain⟨hc0,aw,hl0⟩:=hB.see;go_enter func94,ntmps94;go_wp2_with fail;(refine(CX v ka kc la lc S q _ kP (aJ.out.ext Xt) hq (hm.ext Xt)).mono ?_);rw [hb];rintro e w1 ⟨k1,c1,l1,d1,rfl,fA,h1⟩;go_wp2_with fail;go_ret;exact⟨dn (by rw [hb]),Xt⟩
theorem abr (v:V) (ka:aq) (kc:Nat) (la:aq) (lc:Nat) (S:aA) (l:List Ow) (a:aq) (c:Nat) (T:aA) (w:World) (kP:v.size<=1073741824) (cx:cN l<=2097152) (hin:v.In w S ka kc la lc) (hjn:cz w T l a) (hm:fW w):
 Calls prog 53 #[v.val ka kc la lc, .slice a l.length c] w (aa0 (fun _=>False) (kU v l) w):=by
 have uO:∀(fn:Fn) (first cap:Array Value) (w:World),(Instr.makeFunc fn first cap).run prog w= .ok (.func fn first cap) w:=fun _ _ _ _=>rfl;have hlen:=ym l;have aJ:=ae hin;have aV:=ae hjn;clear hin hjn;go_enter func53,ntmps53;go_upto_region 2 with fail
 refine aI (R:=fun wx=>aD wx w.heap.size v ka kc la lc/\Ext w wx) ⟨aj,Xt⟩ ?_;rintro wa ⟨ag,aF⟩;have mo:=ag.lt;go_wp2_with fail
 go_loopg [5,10] l.length (fun g s5 i wr=>∃(k:Nat) (a':aq) (c':Nat) (os:List Ow),k<=l.length/\i= .int .i64 k/\g=l.length-k/\s5= .slice a' os.length c'/\os=kU v (l.take k)/\kz wr wa.heap.size (fun _=>False) (.slice a' os.length c') os.length os/\Ext wa wr)
 case atStart=>exact⟨0,none,0, [],Nat.zero_le _,rfl,rfl,rfl,rfl,kz.nil _ _ _,Xt⟩
 case round=>
  obtain⟨wo,rfl⟩:∃x,x=wr:=⟨_,rfl⟩;obtain⟨k,a',c',os,hk,rfl,rfl,rfl,hos,hO,hx⟩:=hrel;have hol:os.length<=l.length:=by rw [hos];unfold kU;have:=List.length_filterMap_le (jt fun p=>(bI v p).isSome) (l.take k);simp at this;omega
  have kM:=ae hos;have HO:=ae hO;have J7:=hx.size;have cX:Ext w wo:=aF.trans hx;clear hos hO;by_cases hlt:k<l.length
  ·obtain⟨b,o,rfl,tS,pa,pc,d0,d1,hsl,hst⟩:=(aV.out.ext cX).item hlt
   have ji:=tK (List.getElem_mem hlt);have hpl:=Ow.tL l[k];have rG:=ae (fun(x:ah) (h:x∈ (l[k]).paths)=>show x.size<=2097152 from by have:=Ow.Am h;omega);have nt:=ae (show kU v (l.take (k+1))=_ from abp (jt fun p=>(bI v p).isSome) l hlt);obtain⟨ow,how⟩:∃ow,l[k]=ow:=⟨_,rfl⟩;rw [how] at d0 d1 hsl hst hpl rG nt ji;have aQ:=ae hst;clear how hst;go_upto_region 5 with fail
   refine aI (R:=fun wx=>af wx wo.heap.size #[.string ow.name, .slice pa ow.paths.length pc] 69/\Ext wo wx) ⟨aj,Xt⟩ ?_;rintro wb ⟨dJ,aP⟩;have rM:aD wb w.heap.size v ka kc la lc:=af.ext (hx.trans aP) ag;have SC:Ext w wb:=cX.trans aP;have hzb:=aP.size;have PH:=dJ.lt;obtain⟨fh,fP,fQ⟩:=dJ.see;go_wp2_with fail;(refine(AG ow.paths pa _ pc _ _ rfl hsl (by omega) (aQ.out.ext Xt)).mono ?_);rintro e w3 ⟨a3,c3,rfl,gK,jJ,h3⟩;have jJ:ek w3 wb.heap.size (.slice a3 ow.paths.length c3) ow.paths.length ow.paths:=by simpa using jJ
   have hx3:Ext wb w3:=Xt;have uX:=af.ext hx3 dJ
   have yC:uV 94 #[.pointer (some ⟨w.heap.size,0,none⟩)] (fun q=> !(bI v q).isSome) ow.paths wb:=
    ⟨enters_of func94 (by kernel_rfl) rfl,fun W x hx e=>abq v ka kc la lc S w.heap.size x W kP (af.ext e rM) (aJ.out.ext (SC.trans e)) (by have:=rG.out x hx;omega) (hm.ext (SC.trans e))⟩
   clear fh fP fQ h3;obtain⟨fh,fP,fQ⟩:=uX.see;go_wp2_with fail;(refine(PI ow.paths a3 _ c3 94 _ _ wb _ (jJ.ext Xt) (by omega) (by exact Xt) yC).mono ?_);obtain⟨ps,hps⟩:∃ps,(ow.paths.filter fun x=> !!(bI v x).isSome)=ps:=⟨_,rfl⟩;have nz:=ae (show ow.paths.filter (fun p=>(bI v p).isSome)=ps by rw [<-hps];simp);have Yx:ps.length<=ow.paths.length:=by rw [<-hps];exact List.length_filter_le _ _
   rw [hps];rintro e w4 ⟨rfl,bL,h4⟩;have CS:=af.ext h4 dJ;have ij:=h4.size;have bX:Ext wo w4:=aP.trans h4;have yI:=ae bL;clear fh fP fQ yC jJ uX hx3 hps bL;obtain⟨fh,fP,fQ⟩:=CS.see;go_upto_region 6 with fail
   refine aI (R:=fun wx=>af wx wo.heap.size #[.string ow.name, .slice a3 ps.length c3] 69/\ek wx wb.heap.size (.slice a3 ps.length c3) ps.length ps/\Ext wo wx) ⟨aj,yI.out.keep (fun b hb he=>Below.heap_setCell _ _ _ _ (by have:=(yI.out.lt b he).1;simp;omega)),Xt⟩ ?_;clear CS dJ fh fP fQ yI bX h4;rintro wc ⟨dJ,bP,fC⟩;have bP:=ae bP;have PJ:Ext wa wc:=hx.trans fC;have rN:=fC.size;obtain⟨fh,fP,fQ⟩:=dJ.see;by_cases hpe:ps= []
   ·have hp0:¬(0:Int)<(ps.length:Int):=by rw [hpe];simp
    have cY:=ae (show os=kU v (l.take (k+1)) by
     rw [nt.out,kM.out];unfold jt;rw [nz.out,if_pos hpe]
     exact(List.append_nil _).symm)
    clear hpe;go_wp2_with fail;go_roundg (l.length-(k+1))
    case measure=>omega
    case rel=>exact⟨k+1,a',c',os,by omega,by go_num,rfl,rfl,cY.out,HO.out.ext Xt,Xt⟩
   ·have hp0:(0:Int)<(ps.length:Int):=by have:=List.length_pos_iff.2 hpe;omega
    have cY:=ae (show os++ [⟨ow.name,ps⟩]=kU v (l.take (k+1)) by
     rw [nt.out,kM.out];unfold jt;rw [nz.out,if_neg hpe]
     rfl)
    have hlo:=HO.out.2;have hown:∀q,(Value.slice a' os.length c').ownBlock=some q->q<wo.heap.size:=by obtain⟨xs,h1,-⟩:=hlo;exact fun q hq=>(h1.lt q hq).2
    clear hpe hlo;obtain⟨a5,c5,ju,ik,-,pX⟩:=bP.out.strs;simp only [Value.slice.injEq,true_and] at ju;obtain⟨rfl,rfl⟩:=ju;have Ka:=ae (pX.keep (T:=fR wa.heap.size (fun _=>False) (.slice a' os.length c')) (fun _ _ _=>rfl) (fun q hq _=> .inr ⟨by omega,fun e=>by have:=hown q e;omega⟩));clear pX bP;go_wp2_with (at_builtin;refine PK (x:=⟨ow.name,ps⟩) (by rfl) wc.heap.size (by rfl) (by rfl) (by rfl) (HO.out.ext Xt) ik (Ka.out.ext Xt) aj (by omega) (by simp;omega) ?_;intro g6 bA w6 wL gL CT;have mr:=ae wL;clear wL);have bS:Ext wa w6:=Ext.grown (b:=wc.alloc _) Xt gL CT;go_roundg (l.length-(k+1))
    case measure=>omega
    case rel=>exact⟨k+1,_,_,os++ [⟨ow.name,ps⟩],by omega,by go_num,rfl,by rw [List.length_append];rfl,cY.out,by rw [List.length_append];exact mr.out.ext Xt,Xt⟩
  ·have cF:=ae (show os=kU v l by rw [kM.out,List.take_of_length_le (by omega)])
   go_wp2_with fail;go_ret;rw [<-cF.out];obtain⟨a5,c5,ju,ik,-,pX⟩:=HO.out.rows;simp only [Value.slice.injEq,true_and] at ju;obtain⟨rfl,rfl⟩:=ju;exact⟨a',c',rfl,ik,(pX.ext Xt).keep (fun _ _ _=>rfl) (fun q hq _=> .inr (by rcases hq with h|h;exact h.2.elim;have:=aF.size;omega)),Xt⟩
theorem Tryz.abt:(prog.info? 158).map (fun i=>(i.zero,i.size,i.bytes))=some (some (.agg #[.string ⟨#[]⟩, .string ⟨#[]⟩]),2,32):=by kernel_rfl
abbrev Cf:=ah×ah
def xe (cs:List Cf):List Value:=cs.flatMap fun c=> [.string c.1, .string c.2]
theorem abu (cs ds:List Cf):xe (cs++ds)=xe cs++xe ds:=List.flatMap_append
theorem SD:∀(cs:List Cf) (i:Nat) (h:i<cs.length),(xe cs)[i*2]? =some (.string cs[i].1)/\ (xe cs)[i*2+1]? =some (.string cs[i].2)
 | [],i,h=>by simp at h
 |c::r,0,_=>⟨rfl,rfl⟩
 |c::r,i+1,h=>by have:=SD r i (by simpa using h);rw [show (i+1)*2=i*2+1+1 by omega];exact this
def rK (w:World) (S:aA) (cs:List Cf) (p:aq):Prop:=
 cs= []\/∃b o,p=some ⟨b,o,none⟩/\S b/\∀i (h:i<cs.length),w.cell? ⟨b,o+i*2,none⟩=some (.string cs[i].1)/\w.cell? ⟨b,o+i*2+1,none⟩=some (.string cs[i].2)
theorem rK.ext {w w':World} {S:aA} {cs:List Cf} {p:aq} (h:rK w S cs p) (e:Ext w w'):rK w' S cs p:=by
 rcases h with h|⟨b,o,rfl,hS,hc⟩
 ·exact .inl h
 ·exact .inr ⟨b,o,rfl,hS,fun i h=>⟨e.cell (hc i h).1,e.cell (hc i h).2⟩⟩
theorem rK.mono {w:World} {S T:aA} {cs:List Cf} {p:aq} (h:rK w S cs p) (k:∀b,S b->T b):rK w T cs p:=by
 rcases h with h|⟨b,o,rfl,hS,hc⟩
 ·exact .inl h
 ·exact .inr ⟨b,o,rfl,k b hS,hc⟩
def qJ (w:World) (base:Nat) (v:Value) (n:Nat) (cs:List Cf):Prop:=cs.length=n/\w.ownsRow base 158 2 v n (xe cs)
theorem qJ.nil (w:World) (base:Nat):qJ w base (.slice none 0 0) 0 []:=⟨rfl,World.ownsRow_nil _ _ _ _⟩
theorem qJ.ext {w w':World} {base:Nat} {v:Value} {n:Nat} {cs:List Cf} (h:qJ w base v n cs) (e:Ext w w'):qJ w' base v n cs:=⟨h.1,eT h.2 e⟩
theorem qJ.rows {w:World} {base:Nat} {v:Value} {n:Nat} {cs:List Cf} (h:qJ w base v n cs):∃a cap,v= .slice a n cap/\aO a n cap/\rK w (fun b=>base<=b) cs a:=by
 obtain⟨h0,hl,h1⟩:=h;rcases h1 with⟨hv,hn⟩|⟨g,cap,cur,hv,hb,hg,hnc,hcm,hcs,ht⟩
 ·subst hn
  exact⟨none,0,hv,aO.nil, .inl (List.length_eq_zero_iff.1 h0)⟩
 ·refine⟨some ⟨g,0,none⟩,cap,hv,⟨hnc,hcm,by simp⟩, .inr ⟨g,0,rfl,hb,fun i hi=> ?_⟩⟩
  have hx:∀j u,(xe cs)[j]? =some u->w.cell? ⟨g,j,none⟩=some u:=by
   intro j u hj;rw [cell_of_row w g j cur _ _ hg];rw [<-ht,List.getElem?_take] at hj
   split at hj
   ·simpa using hj
   ·cases hj
  obtain⟨c0,c1⟩:=SD cs i hi;rw [Nat.zero_add];exact⟨hx _ _ c0,hx _ _ c1⟩
theorem abv {w:World} {k base e size n:Nat} {vs:Array Value} {T:TypeId} {v:Value} {xs:List Value} (hB:af w k vs T) (h:w.ownsRow base e size v n xs) (hne:T≠e):∀g,v.ownBlock=some g->k≠g:=by
 rintro g hg rfl;obtain⟨q1,z1,e1⟩:=zY h k hg;unfold af at hB;rw [hB] at e1;simp only [Option.some.injEq,Obj.cells.injEq] at e1;exact hne e1.2.1
theorem abw {W:World} {ops:Array Oper} {rest:List Oper} {o:Oper} {a:Act} {Q:Exit->Act->World->Prop} {base n:Nat} {vl:Value} {l:List Cf} {x y:ah} (hgd:o.guard=none) (B:Nat) {s t:Operand}
 (ho:o.op= .call {callee:= .builtin .append,args:= #[s,t],argTypes:= #[100,100]}) (hs:a.eval s=vl) (hx:a.eval t= .slice (some ⟨B,0,none⟩) 1 1)
 (hI:qJ W base vl n l) (hB:af W B #[.string x, .string y] 158) (hn:n<=1073741824) (hbase:base<=W.heap.size)
 (h:∀g cap w',qJ w' base (.slice (some ⟨g,0,none⟩) (n+1) cap) (n+1) (l++ [(x,y)])->W.grownBy w' vl.ownBlock-> (∀k,vl.ownBlock=some k->base<=k)->wpList prog ops Q rest (a.put o.dst (.slice (some ⟨g,0,none⟩) (n+1) cap)) w'):wpList prog ops Q (o::rest) a W:=by
 obtain⟨j0,hj,hy0,hy1,hy2⟩:=info_parts Tryz.abt;refine wpList_plain hgd fun _ hK=>wp_append_lies _ s t _ ho base 158 j0 _ 2 32 underlying100 hj hy0 hy1 hy2 rfl (by decide) vl n (xe l) hs hI.2 ⟨B,0,none⟩ 1 1 [.string x, .string y] hx (by rfl) (World.news_of_block (cs:= #[.string x, .string y]) (t:=158) (fr:=(0,0)) hB) (by simp [Value.oneCell']) (by omega) (by unfold maxLen;omega) (by omega) hbase _ rfl ?_;intro g cap w' hown hgrow hat hlt;exact hK _ _ (h g cap w' ⟨by simp [hI.1],by rw [abu];exact hown⟩ hgrow (fun k hk=>(hI.2.lt k hk).1))
def abx (r:List Cf) (w:World) (e:Ending) (w':World):Prop:=
 ∃a c,e= .returned (.slice a r.length c)/\aO a r.length c/\rK w' (fun b=>w.heap.size<=b) r a/\Ext w w'
theorem aby (v want:V) (who:ah) (l:List Ow) {k:Nat} (h:k<l.length):jN v (l.take (k+1)) who want=jN v (l.take k) who want++wI v want who l[k]:=by
 unfold jN;rw [List.take_succ_eq_append_getElem h,List.flatMap_append];simp
theorem abz (v want:V) (who:ah) (o:Ow):(wI v want who o).length<=o.paths.length:=by
 unfold wI
 split
 ·simp
 ·rw [List.length_map];exact List.length_filter_le _ _
theorem abA (v want:V) (who:ah) (l:List Ow):(jN v l who want).length<=cN l:=by
 induction l with
 |nil=>simp [jN]
 |cons o r ih=>
  unfold jN cN at ih⊢;rw [List.flatMap_cons,List.length_append,List.map_cons,List.sum_cons];have:=abz v want who o;have:=Ow.tL o;omega
theorem abB (l:List Ow) (k:Nat):cN (l.take k)<=cN l:=KA Ow.size l k
theorem PD (v:V) (ka:aq) (kc:Nat) (la:aq) (lc:Nat) (S:aA) (l:List Ow) (a:aq) (c:Nat) (T:aA) (who:ah) (want:V) (kb:aq) (kd:Nat) (lb:aq) (ld:Nat) (U:aA) (w:World)
 (kP:v.size<=1000000000) (hwz:want.size<=1000000000) (cx:cN l<=2097152) (hin:v.In w S ka kc la lc) (hjn:cz w T l a) (hkn:want.In w U kb kd lb ld) (hm:fW w):
 Calls prog 73 #[v.val ka kc la lc, .slice a l.length c, .string who,want.val kb kd lb ld] w (abx (jN v l who want) w):=by
 have hlen:=ym l;have aJ:=ae hin;have aV:=ae hjn;have kx:=ae hkn;clear hin hjn hkn;go_enter func73,ntmps73;go_upto_region 2 with fail
 refine aI (R:=fun wx=>aD wx w.heap.size v ka kc la lc/\aD wx (w.heap.size+1) want kb kd lb ld/\Ext w wx) ⟨aj,aj,Xt⟩ ?_;rintro wa ⟨ag,ai,aF⟩;have mo:=aF.size;go_wp2_with fail
 go_loopg [9,16] l.length (fun g s9 i wr=>∃(k:Nat) (a':aq) (c':Nat) (cs:List Cf),k<=l.length/\i= .int .i64 k/\g=l.length-k/\s9= .slice a' cs.length c'/\cs=jN v (l.take k) who want/\qJ wr wa.heap.size (.slice a' cs.length c') cs.length cs/\Ext wa wr)
 case atStart=>exact⟨0,none,0, [],Nat.zero_le _,rfl,rfl,rfl,rfl,qJ.nil _ _,Xt⟩
 case round=>
  obtain⟨wo,rfl⟩:∃x,x=wr:=⟨_,rfl⟩;obtain⟨k,a',c',cs,hk,rfl,rfl,rfl,hcs,hO,hx⟩:=hrel;have wK:=ae hcs;have HO:=ae hO;have J7:=hx.size;have cX:Ext w wo:=aF.trans hx;clear hcs hO;by_cases hlt:k<l.length
  ·obtain⟨b,o,rfl,tS,pa,pc,d0,d1,hsl,hst⟩:=(aV.out.ext aF).item hlt
   have d0:=hx.cell d0;have d1:=hx.cell d1;have ji:=tK (List.getElem_mem hlt);have hpl:=Ow.tL l[k];have rG:=ae (fun(x:ah) (h:x∈ (l[k]).paths)=>show x.size<=2097152 from by have:=Ow.Am h;omega);have nt:=ae (aby v want who l hlt);have hcz:(cs++wI v want who l[k]).length<=2097152:=by rw [wK.out,<-nt.out];have:=abA v want who (l.take (k+1));have:=abB l (k+1);omega
   obtain⟨ow,how⟩:∃ow,l[k]=ow:=⟨_,rfl⟩;rw [how] at d0 d1 hsl hst hpl rG nt ji hcz;have aQ:=ae hst;clear how hst;by_cases nu:ow.name=who
   ·have hnb:=qA nu
    have cY:=ae (show cs=jN v (l.take (k+1)) who want by
     rw [nt.out,wK.out];unfold wI;rw [if_pos nu]
     exact(List.append_nil _).symm)
    clear nu;go_wp2_with fail;go_roundg (l.length-(k+1))
    case measure=>omega
    case rel=>exact⟨k+1,a',c',cs,by omega,by go_num,rfl,rfl,cY.out,HO.out.ext Xt,Xt⟩
   ·have hnb:=tP nu
    have SE:=ae (show wI v want who ow=(ow.paths.filter (fu v want)).map fun q=>(ow.name,q) from if_neg nu);clear nu;go_upto_region 5 with fail
    refine aI (R:=fun wx=>af wx wo.heap.size #[.string ow.name, .slice pa ow.paths.length pc] 69/\Ext wo wx) ⟨aj,Xt⟩ ?_;rintro wb ⟨dJ,aP⟩;have ahc:Ext wa wb:=hx.trans aP;have xf:=ae (HO.out.ext aP);obtain⟨fh,fP,fQ⟩:=dJ.see;go_wp2_with fail
    go_loopg [9,27] ow.paths.length (fun g s9 i wr=>∃(j:Nat) (a':aq) (c':Nat) (ds:List Cf),j<=ow.paths.length/\i= .int .i64 j/\g=ow.paths.length-j/\s9= .slice a' ds.length c'/\ds=cs++((ow.paths.take j).filter (fu v want)).map (fun q=>(ow.name,q))/\qJ wr wa.heap.size (.slice a' ds.length c') ds.length ds/\af wr wo.heap.size #[.string ow.name, .slice pa ow.paths.length pc] 69/\Ext wa wr)
    case atStart=>exact⟨0,a',c',cs,Nat.zero_le _,rfl,rfl,rfl,by simp,xf.out.ext Xt,aj,Xt⟩
    case round=>
     obtain⟨wi,rfl⟩:∃x,x=wr:=⟨_,rfl⟩;clear dJ fh fP fQ xf;obtain⟨j,a2,c2,ds,hj,rfl,rfl,rfl,hds,SF,dJ,hx2⟩:=hrel;have SG:=aQ.out.ext hx2;have G0:=ae hds;have LL:=ae SF;have YC:Ext w wi:=aF.trans hx2;have rM:=af.ext hx2 ag;have hBw:=af.ext hx2 ai;have hz2:=hx2.size;obtain⟨hc0,aw,hl0⟩:=rM.see;obtain⟨hc1,aB,az⟩:=hBw.see;obtain⟨fh,fP,fQ⟩:=dJ.see;clear hds SF;by_cases hjl:j<ow.paths.length
     ·obtain⟨b2,o2,rfl,uP,hC⟩:=SG.resolve_left (by intro h;rw [h] at hjl;simp at hjl)
      have e0:=hC j hjl;have yf:=rG.out _ (List.getElem_mem hjl);have Ht:=ae (List.take_succ_eq_append_getElem hjl);obtain⟨q,hq⟩:∃q,ow.paths[j]=q:=⟨_,rfl⟩;rw [hq] at e0 yf Ht;clear hC hq SG;go_wp2_with fail;(refine(Px v ka kc la lc S want kb kd lb ld U q _ kP hwz (aJ.out.ext Xt) (kx.out.ext Xt) (by omega) (hm.ext Xt)).mono ?_)
      cases bU:fu v want q with
      |false=>
       have cY:=ae (show ds=cs++((ow.paths.take (j+1)).filter (fu v want)).map (fun q=>(ow.name,q)) by
        rw [Ht.out,List.filter_append,G0.out];simp [bU])
       rintro e w3 ⟨rfl,h3⟩;have uX:=af.ext (w':=w3) Xt dJ;have LM:Ext wi w3:=Xt;clear bU h3 hc0 aw hl0 hc1 aB az fh fP fQ;go_wp2_with fail;go_roundg (ow.paths.length-(j+1))
       case measure=>omega
       case rel=>exact⟨j+1,a2,c2,ds,by omega,by go_num,rfl,rfl,cY.out,LL.out.ext Xt,aj,Xt⟩
      |true=>
       have cY:=ae (show ds++ [(ow.name,q)]=cs++((ow.paths.take (j+1)).filter (fu v want)).map (fun q=>(ow.name,q)) by
        rw [Ht.out,List.filter_append,G0.out];simp [bU])
       have hdl:ds.length<=2097152:=by have h1:=congrArg List.length G0.out;rw [List.length_append,List.length_map] at h1;have h2:((ow.paths.take j).filter (fu v want)).length<= (ow.paths.filter (fu v want)).length:=(List.Sublist.filter _ (List.take_sublist _ _)).length_le;rw [List.length_append,SE.out,List.length_map] at hcz;omega
       rintro e w3 ⟨rfl,h3⟩;have uX:=af.ext (w':=w3) Xt dJ;have LM:Ext wi w3:=Xt;have hz3:=LM.size;clear bU h3 hc0 aw hl0 hc1 aB az fh fP fQ;obtain⟨fh,fP,fQ⟩:=uX.see;go_upto_region 10 with fail
       refine aI (R:=fun wx=>Ext w3 wx) (by exact Xt) ?_;clear fh fP fQ;rintro wc fC;have LN:=af.ext fC uX;have SH:Ext wi wc:=LM.trans fC;have PJ:Ext wa wc:=hx2.trans SH;have lH:=ae (LL.out.ext SH);have rN:=fC.size;have hap:=abv LN lH.out.2 (by decide);have j6:=ae hap;clear hap fC;obtain⟨fh,fP,fQ⟩:=LN.see;go_wp2_with (at_builtin;refine abw (x:=ow.name) (y:=q) (by rfl) wc.heap.size (by rfl) (by rfl) (by rfl) (lH.out.ext Xt) aj (by omega) (by simp;omega) ?_;intro g6 bA w6 wL gL CT;have mr:=ae wL;clear wL);have bS:Ext wa w6:=Ext.grown (b:=wc.alloc _) Xt gL CT;have ahd:af w6 wo.heap.size #[.string ow.name, .slice (some ⟨b2,o2,none⟩) ow.paths.length pc] 69:=af.grown (w:=wc.alloc _) (af.alloc LN _) gL (fun e=>j6.out _ e.symm rfl);go_roundg (ow.paths.length-(j+1))
       case measure=>omega
       case rel=>exact⟨j+1,_,_,ds++ [(ow.name,q)],by omega,by go_num,rfl,by rw [List.length_append];rfl,cY.out,by rw [List.length_append];exact mr.out.ext Xt,aj,Xt⟩
     ·have cY:=ae (show ds=jN v (l.take (k+1)) who want by
       rw [nt.out,SE.out,G0.out,wK.out,List.take_of_length_le (show ow.paths.length<=j by omega)])
      go_wp2_with fail;go_roundg (l.length-(k+1))
      case measure=>omega
      case rel=>exact⟨k+1,a2,c2,ds,by omega,by go_num,rfl,rfl,cY.out,LL.out.ext Xt,Xt⟩
  ·have cF:=ae (show cs=jN v l who want by rw [wK.out,List.take_of_length_le (by omega)])
   go_wp2_with fail;go_ret;rw [<-cF.out];obtain⟨a5,c5,ju,ik,pX⟩:=HO.out.rows;simp only [Value.slice.injEq,true_and] at ju;obtain⟨rfl,rfl⟩:=ju;exact⟨a',c',rfl,ik,(pX.mono (fun b hb=>by omega)).ext Xt,Xt⟩
theorem JZ:∀a b:List UInt8,Lib.compareBytes a b<0↔Op.bytesLess a b=true
 | [], []=>by simp [Lib.compareBytes,Op.bytesLess]
 | [],_::_=>by simp [Lib.compareBytes,Op.bytesLess]
 |_::_, []=>by simp [Lib.compareBytes,Op.bytesLess]
 |x::a,y::b=>by
  rw [Lib.compareBytes,Op.bytesLess];have ih:=JZ a b;by_cases h1:x<y
  ·simp [h1]
  ·by_cases h2:y<x
   ·have h3:x≠y:=fun e=>h1 (by rw [e] at h2⊢;exact h2)
    simp [h1,h2,h3]
   ·have h3:x=y:=by
     have:=UInt8.le_antisymm (UInt8.not_lt.1 h2) (UInt8.not_lt.1 h1);exact this
    subst h3;simp [h1,ih]
theorem Yc (v:V) (ka:aq) (kc:Nat) (la:aq) (lc:Nat) (S:aA) (want:V) (kb:aq) (kd:Nat) (lb:aq) (ld:Nat) (T:aA) (B D:Nat) (q:ah) (w:World) (kP:v.size<=1000000000) (hwz:want.size<=1000000000)
 (hB:aD w B v ka kc la lc) (hD:aD w D want kb kd lb ld) (hin:v.In w S ka kc la lc) (hjn:want.In w T kb kd lb ld) (hq:q.size<=1073741824) (hm:fW w):
 Calls prog 76 #[.string q, .pointer (some ⟨B,0,none⟩), .pointer (some ⟨D,0,none⟩)] w fun e w'=>e= .returned (.bool (fu v want q))/\Ext w w':=by
 have aJ:=ae hin;have aV:=ae hjn;clear hin hjn;obtain⟨hc0,aw,hl0⟩:=hB.see;obtain⟨hc1,aB,az⟩:=hD.see;go_enter func76,ntmps76;go_wp2_with fail;(refine(Px v ka kc la lc S want kb kd lb ld T q _ kP hwz (aJ.out.ext Xt) (aV.out.ext Xt) hq (hm.ext Xt)).mono ?_);rintro e w1 ⟨rfl,h1⟩;go_wp2_with fail;go_ret;exact⟨rfl,Xt⟩
theorem Yd (p q:ah) (B:Nat) (w:World) (hB:af w B #[.string p] 9) (hp:p.size<=1073741824) (hq:q.size<=1073741824):
 Calls prog 82 #[.string q, .pointer (some ⟨B,0,none⟩)] w fun e w'=>e= .returned (.bool (tO p q))/\Ext w w':=by
 obtain⟨hc0,aw,hl0⟩:=hB.see;have Hn:=ae (show tO p q=(decide (p=q)||fO p q||fO q p) from rfl);by_cases kQ:p=q
 ·have hb:=qA kQ
  have Hr:=ae (show tO p q=true by rw [Hn.out,decide_eq_true kQ];rfl);clear kQ;go_enter func82,ntmps82;go_wp2_with fail;go_ret;exact⟨dn Hr.out.symm,Xt⟩
 ·have hb:=tP kQ
  have Hr:=ae (show tO p q=(fO p q||fO q p) by rw [Hn.out,decide_eq_false kQ];rfl);clear kQ
  cases h1:fO p q with
  |true=>
   have H1:=ae h1;clear h1;go_enter func82,ntmps82;go_wp2_with fail;(refine(tQ p q _ hp).mono ?_);rw [H1.out];rintro e w1 ⟨rfl,rfl⟩;go_wp2_with fail;go_ret;exact⟨dn (by rw [Hr.out,H1.out];rfl),Xt⟩
  |false=>
   have H1:=ae h1;clear h1;go_enter func82,ntmps82;go_wp2_with fail;(refine(tQ p q _ hp).mono ?_);rw [H1.out];rintro e w1 ⟨rfl,rfl⟩;go_wp2_with fail;(refine(tQ q p _ hq).mono ?_);rintro e w2 ⟨rfl,rfl⟩;go_wp2_with fail;go_ret;exact⟨dn (by rw [Hr.out,H1.out];rfl),Xt⟩
theorem Py (p:ah) (ow:Ow) (pa:aq) (pc B:Nat) (S:aA) (w:World) (hB:af w B #[.string p] 9) (hp:p.size<=1073741824) (ji:ow.size<=2097152) (hst:bT w S pa ow.paths):
 Calls prog 80 #[.agg #[.string ow.name, .slice pa ow.paths.length pc], .pointer (some ⟨B,0,none⟩)] w fun e w'=>e= .returned (.bool (ow.paths.any (tO p)))/\Ext w w':=by
 have uO:∀(fn:Fn) (first cap:Array Value) (w:World),(Instr.makeFunc fn first cap).run prog w= .ok (.func fn first cap) w:=fun _ _ _ _=>rfl;have hpl:=ow.tL;have aQ:=ae hst;clear hst;go_enter func80,ntmps80;go_upto_region 1 with fail
 refine aI (R:=fun wx=>af wx w.heap.size #[.string ow.name, .slice pa ow.paths.length pc] 69/\Ext w wx) ⟨aj,Xt⟩ ?_;rintro wa ⟨ag,aF⟩
 have yC:uV 82 #[.pointer (some ⟨B,0,none⟩)] (tO p) ow.paths wa:=
  ⟨enters_of func82 (by kernel_rfl) rfl,fun W x hx e=>Yd p x B W (af.ext (aF.trans e) hB) hp (by have:=Ow.Am hx;omega)⟩
 obtain⟨hc0,aw,hl0⟩:=ag.see;go_wp2_with fail;(refine(Ye ow.paths pa _ pc S 82 _ _ _ rfl (by omega) (aQ.out.ext Xt) (yC.later Xt)).mono ?_);rintro e w1 ⟨rfl,h1⟩;go_wp2_with fail;go_ret;exact⟨rfl,Xt⟩
theorem Yf (l:List Ow) (p:ah) (a:aq) (n c B:Nat) (S:aA) (w:World) (hn:l.length=n) (hbig:n<=1073741824) (ji:∀o∈l,o.size<=2097152) (hin:cz w S l a) (hB:af w B #[.string p] 9) (hp:p.size<=1073741824):
 Calls prog 118 #[.slice a n c, .func (.func 80) #[] #[.pointer (some ⟨B,0,none⟩)]] w fun e w'=>∃r:Int,e= .returned (.int .i64 r)/\qB l p=decide (0<=r)/\Ext w w':=by
 have aJ:=ae hin;have CM:=ae ji;clear hin ji;subst hn;go_enter func118,ntmps118;go_wp2_with fail
 go_loopg [5,8] l.length (fun gg _ i wr=>∃k:Nat,k<=l.length/\i= .int .i64 k/\gg=l.length-k/\qB (l.take k) p=false/\Ext w wr)
 case atStart=>exact⟨0,Nat.zero_le _,rfl,rfl,by simp [qB],Xt⟩
 case round=>
  obtain⟨k,hk,rfl,rfl,hall,hx⟩:=hrel;have wJ:=ae hall;clear hall;by_cases hlt:k<l.length
  ·obtain⟨b,o,rfl,hS,pa,pc,d0,d1,hsl,hst⟩:=(aJ.out.ext hx).item hlt
   have hz:=CM.out _ (List.getElem_mem hlt);have Ht:=ae (List.take_succ_eq_append_getElem hlt);have Hm:=ae (List.getElem_mem hlt);have aQ:=ae hst;obtain⟨ow,how⟩:∃ow,l[k]=ow:=⟨_,rfl⟩;rw [how] at d0 d1 hz Ht Hm aQ;clear how hst hsl
   cases hq:ow.paths.any (tO p) with
   |true=>
    have Hr:=ae (show qB l p=true from List.any_eq_true.2 ⟨ow,Hm.out,hq⟩);go_wp2_with fail;(refine(Py p ow pa pc B S _ (af.ext (w:=wr) Xt (af.ext hx hB)) hp hz (aQ.out.ext Xt)).mono ?_);rw [hq];rintro e w2 ⟨rfl,h2⟩;go_wp2_with fail;go_ret;exact⟨_,rfl,by rw [Hr.out];simp,Xt⟩
   |false=>
    have Hr:=ae (show qB (l.take (k+1)) p=false by
     have:=wJ.out;unfold qB at this⊢;rw [Ht.out,List.any_append,this]
     simp [hq])
    go_wp2_with fail;(refine(Py p ow pa pc B S _ (af.ext (w:=wr) Xt (af.ext hx hB)) hp hz (aQ.out.ext Xt)).mono ?_);rw [hq];rintro e w2 ⟨rfl,h2⟩;go_wp2_with fail;go_roundg (l.length-(k+1))
    case measure=>omega
    case rel=>exact⟨k+1,by omega,by go_num,rfl,Hr.out,Xt⟩
  ·have cF:=ae (show qB l p=false by have:=wJ.out;rwa [List.take_of_length_le (by omega)] at this)
   go_wp2_with fail;go_ret;exact⟨_,rfl,by rw [cF.out];rfl,Xt⟩
theorem Yg (l:List Ow) (p:ah) (a:aq) (n c B:Nat) (S:aA) (w:World) (hn:l.length=n) (hbig:n<=1073741824) (ji:∀o∈l,o.size<=2097152) (hin:cz w S l a) (hB:af w B #[.string p] 9) (hp:p.size<=1073741824):
 Calls prog 79 #[.slice a n c, .func (.func 80) #[] #[.pointer (some ⟨B,0,none⟩)]] w fun e w'=>e= .returned (.bool (qB l p))/\Ext w w':=by
 go_enter func79,ntmps79;go_wp2_with fail;(refine(Yf l p a n c B S _ hn hbig ji (hin.ext Xt) (af.ext (w:=w) Xt hB) hp).mono ?_);rintro e w1 ⟨r,rfl,hr,h1⟩;have Hr:=ae hr;clear hr;go_wp2_with fail;go_ret;exact⟨dn Hr.out.symm,Xt⟩
theorem J0 (ow:Ow) (pa:aq) (pc:Nat) (who:ah) (w:World):
 Calls prog 89 #[.agg #[.string ow.name, .slice pa ow.paths.length pc], .string who] w fun e w'=>e= .returned (.int .i64 (Lib.compareBytes ow.name.data.toList who.data.toList))/\Ext w w':=by
 go_enter func89,ntmps89;go_wp2_with fail;(refine(Tryz.strings_Compare ow.name who _).mono ?_);rintro e w1 ⟨rfl,rfl⟩;go_wp2_with fail;go_ret;exact⟨rfl,Xt⟩
theorem Yh (l:List Ow) (who:ah) (a:aq) (n c:Nat) (S:aA) (w:World) (hn:l.length=n) (hbig:n<=1073741824) (hr:cn (l.map Ow.name)) (hin:cz w S l a):
 Calls prog 88 #[.slice a n c, .string who, .func (.func 89) #[] #[]] w fun e w'=>∃fb,e= .returned (.tuple #[.int .i64 (nj l who), .bool fb])/\Ext w w':=by
 have aJ:=ae hin
 have Az:=ae (show∀s t (h:t<l.length) (hst:s<=t),bB l[t].name who=true->bB (l[s]'(by omega)).name who=true from fun s t h hst hl=>by
  by_cases e:s=t
  ·subst e;exact hl
  ·have:=Av hr (i:=s) (j:=t) (by simp;omega) (by simpa using h) (by omega)
   simp only [List.getElem_map] at this
   exact uU this hl)
 clear hin hr;subst hn;go_enter func88,ntmps88;go_wp2_with fail
 go_loopg [9,10] l.length (fun gg s9 CN wr=>∃lo hi:Nat,s9= .int .i64 lo/\CN= .int .i64 hi/\lo<=hi/\hi<=l.length/\hi-lo<=gg/\ (∀t (h:t<l.length),t<lo->bB l[t].name who=true)/\ (∀t (h:t<l.length),hi<=t->bB l[t].name who=false)/\Ext w wr)
 case atStart=>exact⟨0,l.length,rfl,rfl,Nat.zero_le _,Nat.le_refl _,by omega,fun t h h0=>absurd h0 (Nat.not_lt_zero _),fun t h h0=>by omega,Xt⟩
 case round=>
  obtain⟨lo,hi,rfl,rfl,J1,hin,hgg,h1,h2,hx⟩:=hrel;have H1:=ae h1;have H2:=ae h2;clear h1 h2;by_cases hlt:lo<hi
  ·have hmid:(lo+hi)/2<l.length:=by omega
   obtain⟨b,o,rfl,hS,pa,pc,d0,d1,hsl,hst⟩:=(aJ.out.ext hx).item hmid;have Hc:=ae (JZ (l[(lo+hi)/2]).name.data.toList who.data.toList);have yD:=ae (show bB (l[(lo+hi)/2]).name who=Op.bytesLess (l[(lo+hi)/2]).name.data.toList who.data.toList by unfold bB;rw [ByteArray.toList_eq,ByteArray.toList_eq]);have hm0:(0:Int)<= ((lo:Int)+(hi:Int))/2:=by omega
   have yo:((lo:Int)+(hi:Int))/2<(l.length:Int):=by omega
   have Yi:(((lo:Int)+(hi:Int))/2).toNat=(lo+hi)/2:=by omega
   clear hst hsl;by_cases hcm:Lib.compareBytes (l[(lo+hi)/2]).name.data.toList who.data.toList<0
   ·have Hl:=ae (show bB (l[(lo+hi)/2]).name who=true by rw [yD.out];exact Hc.out.1 hcm)
    go_wp2_with fail;(refine(J0 l[(lo+hi)/2] pa pc who _).mono ?_);rintro e w2 ⟨rfl,h2⟩;go_wp2_with fail;go_roundg (hi-((lo+hi)/2+1))
    case measure=>omega
    case rel=>exact⟨(lo+hi)/2+1,hi,by go_num,rfl,by omega,hin,Nat.le_refl _,fun t h ht=>Az.out t _ hmid (by omega) Hl.out,H2.out,Xt⟩
   ·have Hl:=ae (show bB (l[(lo+hi)/2]).name who=false by
     rw [yD.out]
     cases hb:Op.bytesLess (l[(lo+hi)/2]).name.data.toList who.data.toList with
     |false=>rfl
     |true=>exact absurd (Hc.out.2 hb) hcm)
    go_wp2_with fail;(refine(J0 l[(lo+hi)/2] pa pc who _).mono ?_);rintro e w2 ⟨rfl,h2⟩;go_wp2_with fail;go_roundg ((lo+hi)/2-lo)
    case measure=>omega
    case rel=>exact⟨lo,(lo+hi)/2,rfl,by go_num,by omega,by omega,Nat.le_refl _,H1.out,(fun t h ht=>by
     cases hb:bB l[t].name who with
     |false=>rfl
     |true=>have:=Az.out _ t h ht hb;rw [Hl.out] at this;cases this),Xt⟩
  ·obtain rfl:hi=lo:=by omega
   have hpos:hi=nj l who:=FM (ks:=l.map Ow.name) (by simpa using hin) (fun i h=>by simp only [List.getElem_map];exact H1.out i (by omega) h) (fun h=>by simp only [List.getElem_map];exact H2.out hi (by simpa using h) (Nat.le_refl _));have yE:=ae hpos;clear hpos;by_cases hend:hi<l.length
   ·have J2:(hi:Int)<(l.length:Int):=by omega
    obtain⟨b,o,rfl,hS,pa,pc,d0,d1,hsl,hst⟩:=(aJ.out.ext hx).item hend;clear hst hsl;go_wp2_with fail;(refine(J0 l[hi] pa pc who _).mono ?_);rintro e w2 ⟨rfl,h2⟩;go_wp2_with fail;go_ret2;rw [<-yE.out];exact⟨_,rfl,Xt⟩
   ·have J2:¬(hi:Int)<(l.length:Int):=by omega
    go_wp2_with fail;go_ret2;rw [<-yE.out];exact⟨.inl rfl,Xt⟩
end Go.Proofs.YtlcebdaghmdkeaaGreatDoor
