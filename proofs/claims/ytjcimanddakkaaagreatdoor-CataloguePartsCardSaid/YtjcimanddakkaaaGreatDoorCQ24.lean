/- Lemmas. -/
import Derived.Test.YtjcimanddakkaaaGreatDoorCQ21
import Derived.Test.YtjcimanddakkaaaGreatDoorCQ23
set_option maxRecDepth 100000
set_option maxHeartbeats 8000000
namespace Go.Proofs.YtjcimanddakkaaaGreatDoor
open Go.Value renaming bool→fn,map→fs,slice→h2,int→J
open _root_.Option renaming some→X,none→Y
open Go.IntKind renaming i64→U,u8→hg
open Go.Obj renaming cells→hi
open Go.Ending renaming returned→ih
open Go.Lib renaming hid→Z
open Tryz
open _root_.Nat renaming le_refl→kk,le_trans→ko,lt_of_lt_of_le→lB,zero_le→l2,mul_le_mul→l5
open _root_.List renaming length_map→kl,getD_eq_getElem?_getD→kq,mem_singleton→ks,replicate→kt,getElem?_eq_getElem→la,mem_append→lb,length_append→ld,getElem_set_self→lk,getElem_mem→lp,range→lx,take_succ_eq_append_getElem→lE,pairwise_map→lP,nodup_append→lQ,getElem?_map→lT,take_of_length_le→l6,getElem?_eq_none→ma,length_flatMap→mc
open Go renaming Value→kv,World→lm
open Go.RowKit.Below renaming refl→lf
open Go.Obj renaming cells→ls,noConfusion→l1
open Go.World.ownsRow renaming form→lv
open Go.Value renaming bool→l3
open Go.Calls renaming mono→l4
open Go.World renaming alloc_heap_new→l7,ownsRow_nil→md
section
open Go.RowKit Go.Maps Go.Shelf
def gY(l:List aA)(q:Nat)(a:List Bs)(s:Bs)(i:Nat):Prop:=i<q/\s∈rawR (l.getD i rec0).fields∨i=q/\s∈a
theorem kB(l:List aA)(p:Nat×Nat):cameR l 0 [] p=false:=by unfold cameR;simp
theorem xE{l:List aA}{q:Nat}{d:List Bs}{s:Bs}(g:s∉d)(p:Nat×Nat):cameR l q (d++[s]) p=true↔cameR l q d p=true∨p.2=q/\gY l q d s p.1:=by
 unfold cameR gY;simp only[Bool.and_eq_true,Bool.or_eq_true,decide_eq_true_eq,List.any_append,List.any_cons,List.any_nil,Bool.or_false,List.contains_iff_mem];constructor
 .rintro⟨c,⟨a,b⟩|⟨a,b|b⟩⟩
  .exact .inl ⟨c,.inl ⟨a,b⟩⟩
  .exact .inl ⟨c,.inr ⟨a,b⟩⟩
  exact .inr ⟨a,.inl ⟨by omega,b⟩⟩
 rintro(⟨c,a|⟨a,b⟩⟩|⟨a,⟨b,e⟩|⟨_,e⟩⟩)
 .exact⟨c,.inl a⟩
 .exact⟨c,.inr ⟨a,.inl b⟩⟩
 .exact⟨by omega,.inr ⟨a,.inr e⟩⟩
 exact absurd e g
theorem oM(l:List aA)(q:Nat)(p:Nat×Nat):cameR l (q+1) [] p=true↔cameR l q (keysR (l.getD q rec0).fields) p=true:=by
 unfold cameR;have g:=(ir (l.getD q rec0).fields).2;simp only[Bool.and_eq_true,Bool.or_eq_true,decide_eq_true_eq,List.any_nil,Bool.false_eq_true,and_false,or_false,List.any_eq_true,List.contains_iff_mem];constructor
 .rintro⟨c,h,x,b,a⟩;by_cases e:p.2<q
  .exact⟨c,.inl ⟨e,x,b,a⟩⟩
  have d:p.2=q:=by omega
  rw[d]at a;exact⟨c,.inr ⟨d,x,(g x).2 a,b⟩⟩
 rintro⟨c,⟨e,x,b,a⟩|⟨e,x,b,a⟩⟩
 .exact⟨c,by omega,x,b,a⟩
 refine⟨c,by omega,x,a,?_⟩;rw[e];exact(g x).1 b
theorem zh(l:List aA)(q:Nat)(s:Bs)(i:Nat):gY l (q+1) [] s i↔gY l q (keysR (l.getD q rec0).fields) s i:=by
 unfold gY;have b:=(ir (l.getD q rec0).fields).2;simp only[List.not_mem_nil,and_false,or_false];constructor
 .rintro⟨d,a⟩;by_cases e:i<q
  .exact .inl ⟨e,a⟩
  have c:i=q:=by omega
  subst c;exact .inr ⟨rfl,(b s).2 a⟩
 rintro(⟨d,a⟩|⟨rfl,a⟩)
 .exact⟨by omega,a⟩
 exact⟨by omega,(b s).1 a⟩
theorem zg(l:List aA)(q:Nat)(c:List Bs)(s t:Bs)(i:Nat):gY l q (c++[s]) t i↔gY l q c t i∨t=s/\i=q:=by
 unfold gY;simp only[lb,ks];constructor
 .rintro(h|⟨b,a|a⟩)
  .exact .inl (.inl h)
  .exact .inl (.inr ⟨b,a⟩)
  exact .inr ⟨a,b⟩
 rintro((h|⟨b,a⟩)|⟨b,a⟩)
 .exact .inl h
 .exact .inr ⟨b,.inl a⟩
 exact .inr ⟨a,.inr b⟩
theorem wC{K:Type}[DecidableEq K](l:List K)(k:K):∃a:List K,putL (l.map λs=>(s,l3 true)) k (fn true)=a.map (λs=>(s,l3 true))/\(∀s,s∈a↔s∈l∨s=k)/\a.length<=l.length+1:=by
 refine⟨l.filter (λs=> !decide (s=k))++[k],?_,λs=>?_,by have:=List.length_filter_le (λs=> !decide (s=k)) l;simp;omega⟩
 .unfold putL cB;rw[List.filter_map,List.map_append];rfl
 simp only[lb,List.mem_filter,ks,Bool.not_eq_true',decide_eq_false_iff_not];constructor
 .rintro(⟨h,_⟩|h)
  .exact .inl h
  exact .inr h
 rintro(h|h)
 .by_cases e:s=k
  .exact .inr e
  exact .inl ⟨h,e⟩
 exact .inr h
theorem xJ{P:Program}{e:TypeId}{K:Type}[DecidableEq K]{B:ev P e K}{w:lm}{b:Nat}{l:List K}(h:ak B w b (l.map λs=>(s,fn true)))(k:K):∃z:Bool,(z=true↔k∈l)/\(lookL (l.map λs=>(s,l3 true)) k).getD (fn false)=fn z:=by
 by_cases hm:k∈l
 .exact⟨true,⟨λ_=>hm,λ_=>rfl⟩,by rw[(bz h.nodup).2 (List.mem_map.2 ⟨k,hm,rfl⟩)];rfl⟩
 exact⟨false,⟨λh=>(by cases h),λh=>absurd h hm⟩,by
  rw[ip.2 (λv d=>by
   obtain⟨s,c,a⟩:=List.mem_map.1 d;injection a with h1 _
   exact hm (h1▸c))]
  rfl⟩
theorem C6:(prog.info? 208).map (λi=>(i.zero,i.size,i.bytes))=X (X (.agg #[fs Y,.string ⟨#[]⟩,h2 Y 0 0,J U 0,J hg 0]),5,64):=by kernel_rfl
theorem i67:(prog.info? 67).map (λi=>(i.zero,i.size,i.bytes))=X (X (.agg #[J U 0,J U 0]),2,16):=by kernel_rfl
theorem i3:(prog.info? 3).map (λi=>(i.zero,i.size,i.bytes))=X (X (J U 0),1,8):=by kernel_rfl
structure FT where
 a:Option Nat
 b:Bs
 c:Option Addr
 c1:Nat
 c2:Nat
 d:Int
 e:UInt8
def ftCells(t:FT):List kv:=[.map t.a,S t.b,h2 t.c t.c1 t.c2,J U t.d,J hg t.e.toNat]
def ftV(t:FT):kv:=.agg #[.map t.a,S t.b,h2 t.c t.c1 t.c2,J U t.d,J hg t.e.toNat]
def ft0:FT:=⟨Y,[],Y,0,0,0,0⟩
def CG(f:Nat)(w:lm)(g:Nat):Prop:=(f<=g/\∃a c,w.heap[g]?=X (.map a c))∨∃c,w.heap[g]?=X (hi c 9 (0,0))
theorem ak.mp{P:Program}{e:TypeId}{K:Type}[DecidableEq K]{B:ev P e K}{w:lm}{b:Nat}{l:List (K×kv)}(h:ak B w b l):∃a c,w.heap[b]?=X (.map a c):=by
 obtain⟨a,⟨g,c,d,_⟩,_⟩:=h;exact⟨_,_,d⟩
theorem ce.kept{f:Nat}{w w':lm}{v:kv}{r:aA}(h:ce f w v r)(i:∀g,CG f w g->w'.heap[g]?=w.heap[g]?):ce f w' v r:=by
 obtain⟨b,n,c,a,rfl,e,⟨l,d,k⟩,j⟩:=h;exact⟨b,n,c,a,rfl,e,⟨l,d.block (i b (.inl ⟨e,d.mp⟩)),k⟩,ai j (λg m=>i g (.inr (aH j m)))⟩
theorem ce.mono{f d:Nat}{w:lm}{v:kv}{r:aA}(h:ce f w v r)(e:d<=f):ce d w v r:=by
 obtain⟨b,n,c,a,rfl,i,g,j⟩:=h;exact⟨b,n,c,a,rfl,ko e i,g,aD j e⟩
theorem ce.form{f:Nat}{w:lm}{v:kv}{r:aA}(h:ce f w v r):∃t,v=ftV t:=by
 obtain⟨b,n,c,a,rfl,_⟩:=h;exact⟨⟨X b,aK r.fields,a,n,c,br r.fields,r.kind⟩,rfl⟩
theorem ce.below{f:Nat}{w w':lm}{v:kv}{r:aA}(h:ce f w v r)(a:Bw w w'):ce f w' v r:=
 h.kept λg b=>a.block g (by
  rcases b with⟨_,d,c,h⟩|⟨c,h⟩
  .exact ae h
  .exact ae h)
def kF(f lo:Nat)(w:lm)(KB:Nat)(l:List aA)(q:Nat):Prop:=
 ∃a:List FT,a.length=l.length/\w.ownsRow lo 208 5 (h2 (X ⟨KB,0,Y⟩) l.length l.length) l.length (a.flatMap ftCells)/\∀i,i<q->ce f w (ftV (a.getD i ft0)) (l.getD i rec0)
theorem kF.blk{f lo:Nat}{w:lm}{KB:Nat}{l:List aA}{q:Nat}(h:kF f lo w KB l q):(∃b,w.heap[KB]?=X (hi b 208 (0,0)))/\KB<w.heap.size/\lo<=KB:=by
 obtain⟨c,_,a,_⟩:=h;have:=a.lt KB rfl;exact⟨aH a rfl,this.2,this.1⟩
theorem kF.kept{f lo:Nat}{w w':lm}{KB:Nat}{l:List aA}{q:Nat}(h:kF f lo w KB l q)(d:w'.heap[KB]?=w.heap[KB]?)(k:∀g,CG f w g->w'.heap[g]?=w.heap[g]?):kF f lo w' KB l q:=by
 obtain⟨m,a,b,c⟩:=h;exact⟨m,a,ai b (λg e=>by
  have:KB=g:=by simpa[Value.ownBlock]using e
  exact this▸d),λi j=>(c i j).kept k⟩
theorem kF.get{f lo:Nat}{w:lm}{KB:Nat}{l:List aA}{q:Nat}(h:kF f lo w KB l q){i:Nat}(u:i<l.length):∃t:FT,(i<q->ce f w (ftV t) (l.getD i rec0))/\
 w.cell? ⟨KB,i*5,Y⟩=X (.map t.a)/\w.cell? ⟨KB,i*5+1,Y⟩=X (S t.b)/\w.cell? ⟨KB,i*5+2,Y⟩=X (h2 t.c t.c1 t.c2)/\w.cell? ⟨KB,i*5+3,Y⟩=X (J U t.d)/\w.cell? ⟨KB,i*5+4,Y⟩=X (J hg t.e.toNat):=by
 obtain⟨k,s,n,o⟩:=h;have m:i<k.length:=by omega
 refine⟨k[i],λr=>?_,?_⟩
 .have:=o i r;rwa[kq,la m]at this
 have g:∀j,j<5->w.cell? ⟨KB,i*5+j,Y⟩=(ftCells k[i])[j]?:=λj p=>by rw[n.cellAt (i*5+j) (by omega),cW ftCells 5 (λ_=>rfl) k i m j p]
 exact⟨(g 0 (by omega)).trans rfl,(g 1 (by omega)).trans rfl,(g 2 (by omega)).trans rfl,(g 3 (by omega)).trans rfl,(g 4 (by omega)).trans rfl⟩
theorem kF.frozen{f lo:Nat}{w:lm}{KB:Nat}{l:List aA}{q:Nat}(h:kF f lo w KB l q)(j:Nat):w.frozen? ⟨KB,j,Y⟩=false:=by
 obtain⟨⟨b,a⟩,_⟩:=h.blk;exact ab a j
def putKn(W:lm)(KB q:Nat)(t:FT):lm:=((((W.setCell ⟨KB,q*5,Y⟩ (.map t.a)).setCell ⟨KB,q*5+1,Y⟩ (S t.b)).setCell ⟨KB,q*5+2,Y⟩ (h2 t.c t.c1 t.c2)).setCell ⟨KB,q*5+3,Y⟩ (J U t.d)).setCell ⟨KB,q*5+4,Y⟩ (J hg t.e.toNat)
theorem iU(W:lm)(KB q:Nat)(t:FT):az KB W (putKn W KB q t):=(((((az.refl KB W).setCell _ _).setCell _ _).setCell _ _).setCell _ _).setCell _ _
theorem kF.put{f lo:Nat}{w:lm}{KB:Nat}{l:List aA}{q:Nat}(h:kF f lo w KB l q)(I:q<l.length){t:FT}(y:ce f w (ftV t) (l.getD q rec0)):kF f lo (putKn w KB q t) KB l (q+1):=by
 have p:∀g,CG f w g->(putKn w KB q t).heap[g]?=w.heap[g]?:=λg x=>(iU w KB q t).block g (by
  rintro rfl;obtain⟨⟨E,o⟩,_⟩:=h.blk;rcases x with⟨_,F,c,h⟩|⟨c,h⟩
  .rw[o]at h;injection h with h;exact l1 h
  rw[o]at h;injection h with h;injection h with _ h;exact absurd h (by decide))
 obtain⟨j,r,s,u⟩:=h;have k:q<j.length:=by omega
 refine⟨j.set q t,by simpa using r,?_,λi G=>?_⟩
 .have z:=(s.stored (q*5) (.map t.a)).1;have A:=(z.stored (q*5+1) (S t.b)).1;have B:=(A.stored (q*5+2) (h2 t.c t.c1 t.c2)).1;have D:=(B.stored (q*5+3) (J U t.d)).1;have m:=(D.stored (q*5+4) (J hg t.e.toNat)).1;have n:=eR ftCells 5 (λ_=>rfl) j q 0 (.map t.a) {j[q]with a:=t.a} k (by omega) rfl;rw[Nat.add_zero]at n;rw[n]at m
  rw[eR ftCells 5 (λ_=>rfl) _ q 1 (S t.b) ⟨t.a,t.b,j[q].c,j[q].c1,j[q].c2,j[q].d,j[q].e⟩ (by simpa using k) (by omega) (by rw[lk];rfl),List.set_set,
   eR ftCells 5 (λ_=>rfl) _ q 2 (h2 t.c t.c1 t.c2) ⟨t.a,t.b,t.c,t.c1,t.c2,j[q].d,j[q].e⟩ (by simpa using k) (by omega) (by rw[lk];rfl),List.set_set,
   eR ftCells 5 (λ_=>rfl) _ q 3 (J U t.d) ⟨t.a,t.b,t.c,t.c1,t.c2,t.d,j[q].e⟩ (by simpa using k) (by omega) (by rw[lk];rfl),List.set_set,
   eR ftCells 5 (λ_=>rfl) _ q 4 (J hg t.e.toNat) t (by simpa using k) (by omega) (by rw[lk];rfl),List.set_set]at m
  exact m
 by_cases e:i=q
 .subst e;rw[show(j.set i t).getD i ft0=t by rw[kq,List.getElem?_set_self k];rfl];exact y.kept p
 rw[show(j.set q t).getD i ft0=j.getD i ft0 by rw[kq,List.getElem?_set_ne (λh=>e h.symm),kq]];exact(u i (by omega)).kept p
def gw(a:List Nat):List kv:=a.map λi:Nat=>Value.int U (i:Int)
def BP(lo:Nat)(w:lm)(BY:Nat)(H:Bs->Nat->Prop)(N:Nat):Prop:=
 ∃m:List (Bs×kv),ak tB w BY m/\m.length<=N/\(∀s,lookL m s=Y->∀i,¬H s i)/\(∀s v,lookL m s=X v->∃a:List Nat,w.ownsRow lo 3 1 v a.length (gw a)/\a.Nodup/\∀i,i∈a↔H s i)/\
  ∀b c d e,lookL m b=X d->lookL m c=X e->b≠c->d.ownBlock≠e.ownBlock
theorem BP.kept{lo:Nat}{w w':lm}{BY:Nat}{H:Bs->Nat->Prop}{N:Nat}(h:BP lo w BY H N)(n:w'.heap[BY]?=w.heap[BY]?)(o:∀(g:Nat)(c:Array kv),w.heap[g]?=X (ls c 3 (0,0))->w'.heap[g]?=w.heap[g]?):BP lo w' BY H N:=by
 obtain⟨m,b,d,e,i,j⟩:=h;refine⟨m,b.block n,d,e,λs v t=>?_,j⟩;obtain⟨u,a,k⟩:=i s v t;exact⟨u,ai a (λg r=>by obtain⟨c,p⟩:=aH a r;exact o g c p),k⟩
def C9(w:lm)(SE:Nat)(C:Nat×Nat->Prop):Prop:=∃m:List RK,ak Ck w SE (m.map λp=>(p,fn true))/\∀p:RK,p∈m↔∃i k:Nat,p=((i:Int),(k:Int))/\C (i,k)
def cN(p:Nat×Nat):List kv:=[J U (p.1:Int),J U (p.2:Int)]
structure PR(lo f KB BY SE:Nat)(w1 W:lm)(l:List aA)(q:Nat)(H:Bs->Nat->Prop)(C O:Nat×Nat->Prop)(N:Nat)(v:kv):Prop where
 b:Below lo w1 W
 kn:kF f lo W KB l q
 plc:BP lo W BY H N
 se:C9 W SE C
 o:∃os:List (Nat×Nat),W.ownsRow lo 67 2 v os.length (os.flatMap cN)/\os.Nodup/\∀p,p∈os↔O p
 ne:BY≠SE
 los:lo<=BY/\lo<=SE/\BY<f/\SE<f/\lo<=W.heap.size
 cb:∀p,C p->p.1<p.2/\p.2<l.length
 ob:∀p,O p->C p
section
variable {lo f KB BY SE:Nat} {w1 W:lm} {l:List aA} {q:Nat} {H:Bs->Nat->Prop} {C O:Nat×Nat->Prop} {N:Nat} {v:kv}
theorem PR.below(h:PR lo f KB BY SE w1 W l q H C O N v){e:lm}(a:Bw W e):PR lo f KB BY SE w1 e l q H C O N v:=by
 obtain⟨m,i,n⟩:=h.se;obtain⟨w,j,o⟩:=h.o;obtain⟨y,c1,_⟩:=id h.plc;obtain⟨p,r,s,t,k⟩:=h.los;exact⟨h.b.trans (a.mono k),h.kn.kept (a.block _ h.kn.blk.2.1) (λg d=>a.block g (by
  rcases d with⟨_,x,c,h⟩|⟨c,h⟩
  .exact ae h
  exact ae h)),h.plc.kept (a.block _ c1.lt) (λg c u=>a.block g (ae u)),⟨m,i.block (a.block _ i.lt),n⟩,⟨w,ai j (λg d=>a.block g (j.lt g d).2),o⟩,h.ne,⟨p,r,s,t,ko k a.size⟩,h.cb,h.ob⟩
theorem PR.congr(h:PR lo f KB BY SE w1 W l q H C O N v){c:Bs->Nat->Prop}{a d:Nat×Nat->Prop}{e:Nat}(n:∀s i,c s i↔H s i)(r:∀p,a p↔C p)(u:∀p,d p↔O p)(x:N<=e):PR lo f KB BY SE w1 W l q c a d e v:=by
 have o:c=H:=funext λs=>funext λi=>propext (n s i);have t:a=C:=funext λp=>propext (r p);have w:d=O:=funext λp=>propext (u p);subst o t w;refine⟨h.b,h.kn,?_,h.se,h.o,h.ne,h.los,h.cb,h.ob⟩;obtain⟨m,g,j,k⟩:=h.plc;exact⟨m,g,ko j x,k⟩
theorem PR.known(h:PR lo f KB BY SE w1 W l q H C O N v)(y:q<l.length){t:FT}(z:ce f W (ftV t) (l.getD q rec0)):PR lo f KB BY SE w1 (putKn W KB q t) l (q+1) H C O N v:=by
 have a:=iU W KB q t;obtain⟨⟨D,d⟩,E,x⟩:=h.kn.blk;obtain⟨m,i,k⟩:=h.se;obtain⟨A,j,n⟩:=h.o;obtain⟨F,c1,_⟩:=id h.plc;obtain⟨o,p,r,s,u⟩:=h.los;refine⟨h.b.trans (a.below x),h.kn.put y z,h.plc.kept (a.block _ (aj c1 d)) (λg c e=>a.block g (dp e d (by decide))),⟨m,i.block (a.block _ (aj i d)),k⟩,⟨A,ai j (λg e=>a.block g ?_),n⟩,h.ne,⟨o,p,r,s,by rw[a.size];exact u⟩,h.cb,h.ob⟩;obtain⟨B,w⟩:=aH j e;exact dp w d (by decide)
theorem mj{n:Nat}{m:List RK}(hn:m.Nodup)(h:∀p∈m,∃i k:Nat,p=((i:Int),(k:Int))/\i<n/\k<n):m.length<=n*n:=by
 have:=fD m ((lx n).flatMap λi:Nat=>(lx n).map λk:Nat=>(((i:Nat):Int),(k:Int))) hn (λp c=>by obtain⟨i,k,rfl,a,b⟩:=h p c;exact List.mem_flatMap.2 ⟨i,List.mem_range.2 a,List.mem_map.2 ⟨k,List.mem_range.2 b,rfl⟩⟩)
 refine ko this ?_;rw[mc];have:((lx n).map λi=>((lx n).map λk=>(((i:Nat):Int),((k:Nat):Int))).length)=kt n n:=by apply List.ext_getElem?;intro j;by_cases hj:j<n<;>simp[hj]
 rw[this];simp
theorem PR.seen(h:PR lo f KB BY SE w1 W l q H C O N v)(I:l.length<=1000)(i k:Nat)(a3:i<k)(hk:k<l.length):
 ∃b:Bool,(b=true↔C (i,k))/\(Instr.lookup 205 (fs (X SE)) (.agg #[J U (i:Int),J U (k:Int)]) false).run prog W=.ok (fn b) W/\
 ∃u,(Instr.mapUpdate 205 (fs (X SE)) (.agg #[J U (i:Int),J U (k:Int)]) (fn true)).run prog W=.ok () u/\PR lo f KB BY SE w1 u l q H (λp=>C p∨p=(i,k)) O N v/\∀(g:Nat)(c:Array kv)(t:TypeId),W.heap[g]?=X (ls c t (0,0))->u.heap[g]?=W.heap[g]?:=by
 obtain⟨m,d,A⟩:=h.se;have L:rkOk ((i:Int),(k:Int)):=by unfold rkOk i64B;dsimp only;omega
 have G:=ak.look d underlying205 (z:=fn false) (by kernel_rfl) ((i:Int),(k:Int)) L;obtain⟨z,hz,a7⟩:=xJ d ((i:Int),(k:Int));rw[a7]at G;refine⟨z,?_,G,?_⟩
 .rw[hz,A];constructor
  .rintro⟨w,y,s,a⟩;injection s with D E
   have D:i=w:=by omega
   have E:k=y:=by omega
   subst D E;exact a
  exactλa=>⟨i,k,rfl,a⟩
 have a6:m.Nodup:=by have:=d.nodup;rwa[List.map_map,show((λx:RK×kv=>x.1) ∘ λp:RK=>(p,l3 true))=id from rfl,List.map_id]at this
 have a5:=mj (n:=l.length) a6 (λp r=>by obtain⟨i,k,rfl,a⟩:=(A p).1 r;have:=h.cb _ a;exact⟨i,k,rfl,by omega,this.2⟩)
 have ad:m.length<=1000000:=ko a5 (ko (l5 I I) (by omega));obtain⟨u,hr,K,j⟩:=ak.put_run d underlying205 (by rw[kl];unfold maxLen;omega) ((i:Int),(k:Int)) L (fn true);refine⟨u,hr,?_,λg c t o=>j.block g (aj d o).symm⟩;obtain⟨m',e,a4,_⟩:=wC m ((i:Int),(k:Int));rw[e]at K;obtain⟨⟨a8,a⟩,a9,ac⟩:=h.kn.blk;obtain⟨os,B,M⟩:=h.o;obtain⟨mb,c1,_⟩:=id h.plc;obtain⟨P,F,Q,R,T⟩:=h.los;refine⟨h.b.trans (j.below F),h.kn.kept (j.block _ (aj d a).symm) (λg o=>j.block g ?_),h.plc.kept (j.block _ h.ne) (λg c o=>j.block g (aj d o).symm),⟨m',K,λp=>?_⟩,⟨os,ai B (λg o=>j.block g ?_),M⟩,h.ne,⟨P,F,Q,R,by rw[j.size];exact T⟩,λp r=>?_,λp r=>.inl (h.ob p r)⟩
 .rcases o with⟨hf,_⟩|⟨c,V⟩
  .omega
  exact(aj d V).symm
 .rw[a4,A];constructor
  .rintro(⟨w,y,s,a⟩|rfl)
   .exact⟨w,y,s,.inl a⟩
   exact⟨i,k,rfl,.inr rfl⟩
  rintro⟨w,y,s,a|a⟩
  .exact .inl ⟨w,y,s,a⟩
  injection a with c1 c2
  subst c1 c2;exact .inr s
 .obtain⟨cu,a0⟩:=aH B o;exact(aj d a0).symm
 rcases r with r|rfl
 .exact h.cb p r
 exact⟨a3,hk⟩
theorem PR.outs(h:PR lo f KB BY SE w1 W l q H C O N v){i k:Nat}(y:C (i,k))(hn:¬O (i,k)){n u:lm}(o:Bw W n){K:kv}(d:n.grownBy u v.ownBlock){s:List (Nat×Nat)}(a6:W.ownsRow lo 67 2 v s.length (s.flatMap cN)/\s.Nodup/\∀p,p∈s↔O p)(hr:u.ownsRow lo 67 2 K (s.length+1) (s.flatMap cN++[J U (i:Int),J U (k:Int)])):
 PR lo f KB BY SE w1 u l q H C (λp=>O p∨p=(i,k)) N K:=by
 have r:=h.below o;obtain⟨w,o2,I⟩:=a6;have w:=ai w (λg d=>o.block g (w.lt g d).2);have a7:∀g,v.ownBlock=X g->∃x,n.heap[g]?=X (hi x 67 (0,0)):=λg d=>aH w d;have a4:∀g,v.ownBlock=X g->lo<=g:=λg d=>(w.lt g d).1;have G:∀g,g<n.heap.size->(∀c,n.heap[g]?≠X (ls c 67 (0,0)))->u.heap[g]?=n.heap[g]?:=λg hl a5=>d.block g hl (λe=>by obtain⟨x,a3⟩:=a7 g e.symm;exact a5 x a3);obtain⟨m,D,L⟩:=r.se;obtain⟨mb,c1,_⟩:=id r.plc;obtain⟨⟨a8,a0⟩,ac,a9⟩:=r.kn.blk;obtain⟨P,Q,R,T,F⟩:=r.los;have z:∀{b:Nat},(∃E c,n.heap[b]?=X (.map E c))->u.heap[b]?=n.heap[b]?:=λ⟨E,c,o⟩=>G _ (ae o) (λM j=>by rw[o]at j;injection j with j;exact l1 j);have B:∀{b:Nat}{c:Array kv}{t:TypeId},n.heap[b]?=X (ls c t (0,0))->t≠67->u.heap[b]?=n.heap[b]?:=λo ht=>G _ (ae o) (λM j=>by rw[o]at j;injection j with j;injection j with _ j;exact ht j);refine⟨r.b.grown d F a4,r.kn.kept (B a0 (by decide)) (λg d=>?_),r.plc.kept (z c1.mp) (λg c d=>B d (by decide)),⟨m,D.block (z D.mp),L⟩,⟨s++[(i,k)],by rw[ld,List.flatMap_append];exact hr,?_,λp=>by rw[lb,ks,I]⟩,r.ne,⟨P,Q,R,T,ko F d.size⟩,r.cb,λp A=>?_⟩
 .rcases d with⟨_,hm⟩|⟨c,y⟩
  .exact z hm
  exact B y (by decide)
 .rw[lQ];exact⟨o2,by simp,λa V b o=>by rw[List.mem_singleton.1 o];rintro rfl;exact hn ((I _).1 V)⟩
 rcases A with A|rfl
 .exact h.ob p A
 exact y
theorem PR.places(h:PR lo f KB BY SE w1 W l q H C O N v)(hN:N<=100000000000000000)(s:Bs)(hs:s.length<=1000000000)(k:Nat)(hk:¬H s k):
 ∃(x:kv)(n:List Nat),(Instr.lookup 204 (fs (X BY)) (S s) false).run prog W=.ok x W/\W.ownsRow lo 3 1 x n.length (gw n)/\n.Nodup/\(∀i,i∈n↔H s i)/\
 ∀(y:kv)(o E:lm),Bw W o->o.grownBy E x.ownBlock->E.ownsRow lo 3 1 y (n.length+1) (gw n++[J U (k:Int)])->(y.ownBlock=x.ownBlock∨y.ownBlock=X o.heap.size)->
  ∃F,(Instr.mapUpdate 204 (fs (X BY)) (S s) y).run prog E=.ok () F/\PR lo f KB BY SE w1 F l q (λt i=>H t i∨t=s/\i=k) C O (N+1) v/\∀(g:Nat)(c:Array kv),o.heap[g]?=X (ls c 9 (0,0))->F.heap[g]?=o.heap[g]?:=by
 obtain⟨m,a1,a2,a3,a4,a5⟩:=id h.plc;have al:s.length<=maxLen:=by unfold maxLen;omega
 have ad:=ak.look a1 underlying204 (z:=h2 Y 0 0) (by kernel_rfl) s al;have hx:∃(x:kv)(n:List Nat),(lookL m s).getD (h2 Y 0 0)=x/\W.ownsRow lo 3 1 x n.length (gw n)/\n.Nodup/\(∀i,i∈n↔H s i)/\(∀t u,lookL m t=X u->t≠s->x.ownBlock≠u.ownBlock∨x.ownBlock=Y):=by
  cases T:lookL m s with
  |none=>exact⟨_,[],rfl,md _ _ _ _,List.nodup_nil,λi=>⟨λh=>(by cases h),λh=>absurd h (a3 s T i)⟩,λ_ _ _ _=>.inr rfl⟩
  |some x=> obtain⟨n,Q,b2,R⟩:=a4 s x T;exact⟨x,n,rfl,Q,b2,R,λt u r p=>.inl (a5 s t x u T r (λe=>p e.symm))⟩
 obtain⟨x,n,e,Q,b2,R,b4⟩:=hx;rw[e]at ad;refine⟨x,n,ad,Q,b2,R,λy o E j a6 hr aT=>?_⟩;have B:=h.below j;have o1:=ai Q (λg d=>j.block g (Q.lt g d).2);have b8:∀g,x.ownBlock=X g->∃P,o.heap[g]?=X (hi P 3 (0,0)):=λg d=>aH o1 d;have aS:∀g,x.ownBlock=X g->lo<=g:=λg d=>(o1.lt g d).1;have ac:∀g,g<o.heap.size->(∀c,o.heap[g]?≠X (ls c 3 (0,0)))->E.heap[g]?=o.heap[g]?:=λg T A=>a6.block g T (λe=>by obtain⟨P,K⟩:=b8 g e.symm;exact A P K);have a8:∀{b:Nat},(∃es c,o.heap[b]?=X (.map es c))->E.heap[b]?=o.heap[b]?:=λ⟨es,c,j⟩=>ac _ (ae j) (λc' w=>by rw[j]at w;injection w with w;exact l1 w);have b7:∀{b:Nat}{c:Array kv}{t:TypeId},o.heap[b]?=X (ls c t (0,0))->t≠3->E.heap[b]?=o.heap[b]?:=λj p=>ac _ (ae j) (λc' w=>by rw[j]at w;injection w with w;injection w with _ w;exact p w);have V:=a1.block (j.block _ a1.lt);have a9:=V.block (a8 V.mp);obtain⟨F,b6,b0,L⟩:=ak.put_run a9 underlying204 (by unfold maxLen;omega) s al y;refine⟨F,b6,?_⟩;obtain⟨ms,s1,s2⟩:=B.se;obtain⟨⟨bd,ax⟩,bl,bk⟩:=B.kn.blk;obtain⟨g1,g2,g3,g4,g5⟩:=B.los;obtain⟨os,q1,q2⟩:=B.o;have bs:=a6.size;have a0:∀{b:Nat}{c:Array kv}{t:TypeId},o.heap[b]?=X (ls c t (0,0))->t≠3->F.heap[b]?=o.heap[b]?:=λj p=>(L.block _ (λe=>by have:=aj V j;exact this e.symm)).trans (b7 j p)
 have av:Below lo w1 F:=(B.b.grown a6 g5 aS).trans (L.below g1);refine⟨⟨av,B.kn.kept (a0 ax (by decide)) (λg d=>?_),?_,⟨ms,s1.block ((L.block _ (λe=>B.ne e.symm)).trans (a8 s1.mp)),s2⟩,⟨os,ai q1 (λg d=>?_),q2⟩,B.ne,⟨g1,g2,g3,g4,by rw[L.size];omega⟩,B.cb,B.ob⟩,λg c d=>a0 d (by decide)⟩
 .rcases d with⟨hf,hm⟩|⟨c,hc⟩
  .exact(L.block g (by omega)).trans (a8 hm)
  exact a0 hc (by decide)
 .have ao:∀t u,lookL m t=X u->t≠s->y.ownBlock≠u.ownBlock:=λt u r p=>by
   have b9:∀g,u.ownBlock=X g->g<o.heap.size:=λg d=>by obtain⟨_,c1,_⟩:=a4 t u r;exact lB (c1.lt g d).2 j.size
   have bb:y.ownBlock≠Y:=λe0=>by obtain⟨g,bc,he,_⟩:=lv hr (by omega);rw[he]at e0;cases e0
   intro au;rcases aT with G|G
   .rcases b4 t u r p with I|I
    .exact I (G.symm.trans au)
    exact bb (G.trans I)
   have:=b9 _ (au.symm.trans G);omega
  refine⟨_,b0,ko (Ax m s y) (by omega),λt p i=>?_,λt u r=>?_,λt1 t2 u1 u2 M D A=>?_⟩
  .rw[dC]at p;split at p
   .cases p
   rename_i A;rintro(hh|⟨rfl,_⟩)
   .exact a3 t p i hh
   exact A rfl
  .rw[dC]at r;split at r
   .rename_i I;injection r with r
    subst r I;refine⟨n++[k],?_,?_,λi=>?_⟩
    .rw[ld];have:gw (n++[k])=gw n++[J U (k:Int)]:=by unfold gw;rw[List.map_append];rfl
     rw[this];exact ai hr (λg d=>L.block g (λe=>by obtain⟨P,K⟩:=aH hr d;exact aj a9 K e.symm))
    .rw[lQ];exact⟨b2,by simp,λa ha b j=>by rw[List.mem_singleton.1 j];rintro rfl;exact hk ((R _).1 ha)⟩
    rw[lb,ks,R];simp
   rename_i A;obtain⟨zs,c1,c2,c3⟩:=a4 t u r;refine⟨zs,ai c1 (λg d=>?_),c2,λi=>?_⟩
   .have aC:=d;have a7:=(c1.lt g aC).2;obtain⟨P,K⟩:=aH c1 d;have ay:=(j.block g a7).trans K;have b5:g≠BY:=λe=>aj V ay e.symm;rw[L.block g b5,a6.block g (lB a7 j.size) (λe=>?_)]
    .exact j.block g a7
    rcases b4 t u r A with e3|e3
    .exact e3 (e.symm.trans d.symm)
    rw[e3]at e;cases e
   rw[c3];constructor
   .exact .inl
   rintro(h|⟨rfl,_⟩)
   .exact h
   exact absurd rfl A
  rw[dC]at M D;split at M
  .rename_i G;injection M with M
   subst M G;rw[if_neg (λe=>A e.symm)]at D;exact ao t2 u2 D (λe=>A e.symm)
  split at D
  .rename_i G I;injection D with D
   subst D I;exactλe=>ao t1 u1 M A e.symm
  exact a5 t1 t2 u1 u2 M D A
 obtain⟨P,K⟩:=aH q1 d;exact a0 K (by decide)
end
end
section
open Go.RowKit Go.Maps Go.Shelf
def rdCells(p:aA×kv):List kv:=[J hg p.1.kind.toNat,J hg p.1.level.toNat,p.2]
def kX(w:lm)(v:kv)(a:List (aA×kv)):Prop:=aJ 0 w.heap.size w v a.length (a.flatMap rdCells)/\∀p∈a,ag 0 w.heap.size w p.2 p.1.fields
theorem kX.get{w:lm}{v:kv}{c:List (aA×kv)}(h:kX w v c)(i:Nat)(e:i<c.length):
 ∃b d g,v=h2 (X ⟨b,d,Y⟩) c.length g/\b<w.heap.size/\w.cell? ⟨b,d+i*3,Y⟩=X (J hg c[i].1.kind.toNat)/\w.cell? ⟨b,d+i*3+1,Y⟩=X (J hg c[i].1.level.toNat)/\w.cell? ⟨b,d+i*3+2,Y⟩=X c[i].2:=by
 obtain⟨a,g,t,h⟩:=h.1;have r:c.flatMap rdCells≠[]:=by
  cases c with
  |nil=>simp at e
  |cons s l=>simp[rdCells]
 obtain⟨b,d,p,u,o,j⟩:=h r;subst p;have k:=cW rdCells 3 (λ_=>rfl) c i e 0 (by omega);have m:=cW rdCells 3 (λ_=>rfl) c i e 1 (by omega);have n:=cW rdCells 3 (λ_=>rfl) c i e 2 (by omega);exact⟨b,d,g,t,o,j _ _ k,by rw[Nat.add_assoc];exact j _ _ m,by rw[Nat.add_assoc];exact j _ _ n⟩
theorem kX.below{w w':lm}{v:kv}{a:List (aA×kv)}(h:kX w v a)(c:Bw w w'):aJ 0 w.heap.size w' v a.length (a.flatMap rdCells)/\∀p∈a,ag 0 w.heap.size w' p.2 p.1.fields:=
 ⟨aJ.kept h.1 (λg _ b=>c.block g b),λp d=>(h.2 p d).kept (λg _ b=>c.block g b)⟩
theorem AP(n:Nat):(madeCells (ftV ft0).cells (n*5)).toList=(kt n ft0).flatMap ftCells:=by
 apply List.ext_getElem?;intro j;by_cases hj:j<n*5
 .have a:j/5<(kt n ft0).length:=by rw[List.length_replicate];omega
  have e:=cW ftCells 5 (λ_=>rfl) (kt n ft0) (j/5) a (j%5) (by omega);rw[show j/5*5+j%5=j by omega,List.getElem_replicate]at e;rw[e];have b:∀r,r<5->(ftCells ft0)[r]?=X ((ftV ft0).cells[r]!):=by intro r g;rcases r with _|_|_|_|_|r<;>first|rfl|omega
  rw[b _ (by omega)];have d:(ftV ft0).cells.size=5:=rfl;simp[madeCells,hj,d]
 have c:((kt n ft0).flatMap ftCells).length=n*5:=by rw[mc,List.map_replicate];simp[ftCells]
 rw[ma (by rw[Array.length_toList,size_madeCells];omega),ma (by rw[c];omega)]
theorem uf(w:lm)(n:Nat)(hn:n<=1000):∃wa,(Instr.makeSlice 203 (J U (n:Int)) (J U (n:Int))).run prog w=.ok (h2 (X ⟨w.heap.size,0,Y⟩) n n) wa/\
 wa.ownsRow w.heap.size 208 5 (h2 (X ⟨w.heap.size,0,Y⟩) n n) n ((kt n ft0).flatMap ftCells)/\Bw w wa:=by
 obtain⟨i,e,k,h,d⟩:=info_parts C6;obtain⟨wa,b,a,c⟩:=run_makeSlice_full (P:=prog) w w.heap.size 203 208 i (ftV ft0) 5 underlying203 e k h U U n (by omega) (by rw[d];omega) (by unfold maxLen;omega) (kk _);rw[AP]at a;exact⟨wa,b,a,(lf _ w).grown c (kk _) (λj g=>by cases g)⟩
theorem PR.new{w wa:lm}(l:List aA)(h:wa.ownsRow w.heap.size 208 5 (h2 (X ⟨w.heap.size,0,Y⟩) l.length l.length) l.length ((kt l.length ft0).flatMap ftCells))(d:Bw w wa):
 PR w.heap.size (wa.heap.size+2) w.heap.size wa.heap.size (wa.heap.size+1) ((wa.alloc (.map #[] 0)).alloc (.map #[] 0)) ((wa.alloc (.map #[] 0)).alloc (.map #[] 0)) l 0 (gY l 0 []) (λp=>cameR l 0 [] p=true) (λp=>cameR l 0 [] p=true/\40<=pointsR (l.getD p.1 rec0) (l.getD p.2 rec0)) 0 (h2 Y 0 0):=by
 have o:=d.size;have n:(wa.alloc (.map #[] 0)).heap.size=wa.heap.size+1:=by simp
 have e:Bw wa ((wa.alloc (.map #[] 0)).alloc (.map #[] 0)):=((lf _ wa).alloc (kk _) _).alloc (by simp) _;refine⟨lf _ _,⟨kt l.length ft0,by simp,ai h (λg j=>e.block g (h.lt g j).2),λi m=>absurd m (by omega)⟩,⟨[],(ak.made wa).alloc _,kk _,λs _ i=>?_,λs v b=>(by cases b),λ_ _ _ _ b=>(by cases b)⟩,⟨[],?_,λp=>⟨λh=>(by cases h),?_⟩⟩,⟨[],md _ _ _ _,List.nodup_nil,λp=>⟨λh=>(by cases h),?_⟩⟩,by omega,⟨by omega,by omega,by omega,by omega,by simp;omega⟩,λp a=>?_,λp a=>a.1⟩
 .rintro(⟨c,_⟩|⟨_,c⟩)
  .omega
  cases c
 .rw[<- n];exact ak.made _
 .rintro⟨i,k,_,h⟩;rw[kB]at h;cases h
 .rintro⟨h,_⟩;rw[kB]at h;cases h
 rw[kB]at a;cases a
theorem jB{a:List (aA×kv)}{i:Nat}(b:i<a.length):(a.map (·.1)).getD i rec0=a[i].1:=by
 rw[kq,lT,la b];rfl
theorem eH{a:List af}(h:bo a):(bh a).length<=1000000000:=by
 have b:=cE h dY [97];have c:=dW (textF (firstF a dY) [97]);unfold bh;omega
theorem Au{a:List af}(h:bo a):(keysR a).length<=10000000000000:=by
 have b:=kS ((rawR a).mergeSort leB);rw[List.length_mergeSort]at b;have c:=dl a a.length h;rw[List.take_length]at c;have d:(rawR a).length<=(booksR a).length+1:=by unfold rawR;rw[ld,kl];split<;>simp
 have e:(keysR a).length<=(rawR a).length:=b;omega
theorem A9{c:List af}(h:bo c){s:Bs}(i:s∈keysR c):s.length<=1000000000:=by
 have a:=((ir c).2 s).1 i;unfold rawR at a;rcases List.mem_append.1 a with a|a
 .obtain⟨b,d,rfl⟩:=List.mem_map.1 a;have:b.length<=13:=by
   unfold booksR at d;obtain⟨f,_,d⟩:=List.mem_flatMap.1 d;unfold qC at d;split at d
   .obtain⟨u,_,e⟩:=List.mem_filterMap.1 d;split at e
    .exact ed e
    cases e
   cases d
  unfold isbnK;rw[ld];have g:([105,115,98,110,32]:Bs).length=5:=rfl;omega
 split at a
 .cases a
 rw[ks]at a;subst a;have j:=jS c h;have k:((bh c).headD []).length<=4000000:=by
  unfold bh;cases hw:wordsR (textF (firstF c dY) [97])with
  |nil=>simp
  |cons z zs=> have m:=gJ (textF (firstF c dY) [97]) z (by rw[hw];simp);have g:=cE h dY [97];simp only[List.headD_cons];omega
 unfold jT;simp only[ld];have n:([116,105,116,108,101,32]:Bs).length=6:=rfl;have o:([32,47,32]:Bs).length=3:=rfl;omega
theorem nY{C:Nat×Nat->Prop}{i q:Nat}{zs:List Nat}(h:C (i,q)∨(i,q).2=q/\(i,q).1∈zs)(p:Nat×Nat):(C p∨p.2=q/\p.1∈zs)↔(C p∨p.2=q/\p.1∈zs++[i]):=by
 obtain⟨a,b⟩:=p;dsimp only at h ⊢;rw[lb,ks];constructor
 .rintro(c|⟨c,d⟩)
  .exact .inl c
  exact .inr ⟨c,.inl d⟩
 rintro(c|⟨c,d|d⟩)
 .exact .inl c
 .exact .inr ⟨c,d⟩
 subst c d;exact h.imp id (λh=>h)
theorem tV{C:Nat×Nat->Prop}{i q:Nat}{zs:List Nat}(p:Nat×Nat):(C p∨p.2=q/\p.1∈zs++[i])↔((C p∨p.2=q/\p.1∈zs)∨p=(i,q)):=by
 obtain⟨a,b⟩:=p;dsimp only;rw[lb,ks,Prod.mk.injEq];constructor
 .rintro(c|⟨c,d|d⟩)
  .exact .inl (.inl c)
  .exact .inl (.inr ⟨c,d⟩)
  exact .inr ⟨d,c⟩
 rintro((c|⟨c,d⟩)|⟨c,d⟩)
 .exact .inl c
 .exact .inr ⟨c,.inl d⟩
 exact .inr ⟨d,.inr c⟩
def nl(p:Nat×Nat):RK:=((p.1:Int),(p.2:Int))
theorem vB(a:List (Nat×Nat)):a.flatMap cN=(a.map nl).flatMap rkCells:=by
 rw[List.flatMap_map];rfl
theorem yn{l:List aA}{c:List (Nat×Nat)}(hn:c.Nodup)(h:∀p,p∈c↔p∈pairsR l):cU ltRK (c.map nl)=(pairsR l).map nl:=by
 have d:=pM l;have g:∀a,ltNN a a≠true:=λa h=>by rw[jC]at h;omega
 have i:(pairsR l).Nodup:=d.imp λ{a b}h e=>by rw[e]at h;exact g _ h
 refine co aW (((List.perm_ext_iff_of_nodup hn i).2 h).map _) ?_;rw[lP];refine d.imp λ{a b}h=>?_;rw[jC]at h;rw[fE];unfold nl;dsimp only;omega
theorem yI(w:lm)(v:kv)(z:List (aA×kv))(h:kX w v z)(hn:z.length<=1000)(aC:∀p∈z,bo p.1.fields):
 Calls prog 79 #[v] w λe w'=>∃v':kv,e=ih v'/\w'.ownsRow w.heap.size 67 2 v' (pairsR (z.map (·.1))).length ((pairsR (z.map (·.1))).flatMap cN)/\Bw w w':=by
 obtain⟨wa,ja,gP,cg⟩:=uf w z.length hn;have aT:(z.map (·.1)).length=z.length:=kl _;obtain⟨a8,g1⟩:∃B:Nat,B=10000000000000:=⟨_,rfl⟩;have em:=Z g1;clear g1;have b6:=Z (PR.new (w:=w) (wa:=wa) (z.map (·.1)) (by rw[aT];exact gP) cg);obtain⟨l,hl⟩:=Qe (z.map (·.1));have fr:Hid (∀i(M:i<z.length),z[i].1=l.getD i rec0):=λi M=>by rw[<- hl,jB M]
 have d3:Hid (∀i,i<l.length->bo (l.getD i rec0).fields):=λi M=>by
  have gn:i<z.length:=by rw[<- aT,hl];exact M
  rw[<- hl,jB gn];exact aC _ (lp gn)
 rw[hl]at b6 aT ⊢;have fp:=Z h;obtain⟨av,cv,rfl,_⟩:=h.1;obtain⟨w1,cn⟩:=Qe ((wa.alloc (.map #[] 0)).alloc (.map #[] 0));rw[cn]at b6;have g6:Bw w w1:=by rw[<- cn];have hz:=cg.size;exact(cg.alloc hz _).alloc (by simp;omega) _
 have ej:=Z g6;have hW:=Z cn;obtain⟨BY,c8⟩:=Qe wa.heap.size;have g4:(wa.alloc (.map #[] 0)).heap.size=BY+1:=by rw[<- c8];simp
 rw[c8]at b6;have hu:=Z c8;have k3:=Z g4;obtain⟨n,dy⟩:=Qe z.length;have c3:=Z dy;rw[dy]at hn aT ja ⊢;have b3:=Z aT;have ka:= @run_makeMap prog;clear h gP cg cn g6 c8 g4 hl dy aT aC;go_enter func79,ntmps79;go_upto_region 6 with fail;rw[hW.o,hu.o];obtain⟨KB,c9⟩:=Qe w.heap.size;have eQ:=Z c9;rw[c9]at b6 ⊢;have ft:Hid (∀W,Below KB w1 W->Bw w W/\aJ 0 w.heap.size W (h2 av n cv) n (z.flatMap rdCells)/\∀p∈z,ag 0 w.heap.size W p.2 p.1.fields):=λW hb=>by have b9:Bw w W:=ej.o.trans (hb.mono (by rw[<- c9];exact kk _));have:=fp.below b9;rw[c3.o]at this;exact⟨b9,this⟩
 clear c9;go_loopw [6,21] (λv i wr=>∃q:Nat,q<=n/\i=J U q/\Hid (PR KB (BY+2) KB BY (BY+1) w1 wr l q (gY l q []) (λp=>cameR l q [] p=true) (λp=>cameR l q [] p=true/\40<=pointsR (l.getD p.1 rec0) (l.getD p.2 rec0)) (q*a8) v)) (λ_ i _=>n-(intOf i).toNat)
 exact⟨0,l2 _,rfl,by rw[Nat.zero_mul];exact b6.o⟩;obtain⟨q,hq,rfl,HP⟩:=hrel;by_cases b0:q<n;rotate_left
 .obtain rfl:q=n:=by omega
  obtain⟨I,dz,b1,e3⟩:=HP.o.o;have gt:I.length<=1000000:=by
   have y:=mj (n:=l.length) (m:=I.map nl) (by
    rw[List.Nodup,lP];refine List.Pairwise.imp ?_ b1;intro a b da e;injection e with e1 e2
    exact da (Prod.ext (by omega) (by omega))) (λp hp=>by
    obtain⟨o,ho,rfl⟩:=List.mem_map.1 hp;have:=HP.cb _ (HP.ob _ ((e3 o).1 ho));exact⟨o.1,o.2,rfl,by omega,this.2⟩)
   rw[kl]at y;have bk:l.length<=1000:=by rw[b3.o];exact hn
   exact ko y (ko (l5 bk bk) (by omega))
  have f8:Hid (cU ltRK (I.map nl)=(pairsR l).map nl):=yn b1 (λp=>uI l I (λp=>by rw[e3,b3.o]) p);have hh:Hid (Calls prog 132 #[u6,.func (.func 133) #[] #[]] wr λe w'=>e=ih (.tuple #[])/\w'.ownsRow KB 67 2 u6 I.length (((pairsR l).map nl).flatMap rkCells)/\Below KB w1 w'):=by have V:=dz;rw[vB]at V;have D:=wd KB wr u6 (I.map nl) (by rw[kl];exact V) (by rw[kl];exact gt);rw[kl,f8.o]at D;refine D.mono ?_;rintro e w'⟨a1,a2,a3,a4,a5,a6,a7⟩;refine⟨a1,a2,HP.o.b.trans ⟨a3,a4,a5,a6,λk Q=>a7 k (by have:=HP.o.los.2.2.2.2;omega) (λe=>by have:=(dz.lt k e).1;omega)⟩⟩
  have hB:Hid (I.length=(pairsR l).length):=by have:=congrArg List.length f8.o;rw[(di _ _).length_eq,kl,kl]at this;exact this
  clear dz b1 e3;go_wp2_with (go_at_call 132;refine l4 hh.o ?_;rintro e w2⟨rfl,b1,b9⟩;have hD:=Z b1;have ht:=Z b9;clear b1 b9)
  refine bodyPost_ret (results_tmp rfl _ _ _) rfl ⟨u6,rfl,?_,?_⟩
  .rw[eQ.o,<- hB.o,vB];exact hD.o
  exact ej.o.trans (ht.o.mono (by rw[eQ.o];exact kk _))
 have bt:q<z.length:=by rw[c3.o];exact b0
 have b2:q<l.length:=by rw[b3.o];exact b0
 obtain⟨dd,h0,ds⟩:=ft wr HP.b;have gi:=fr q bt;have al:=ds _ (lp bt);have gO:kX wr (h2 av n cv) z:=⟨by rw[c3.o];exact h0.mono (l2 _) dd.size,λp hp=>(ds p hp).mono (kk _) dd.size⟩;obtain⟨b,off,i8,hv,k6,e0,e1,e2⟩:=gO.get q bt;have jn:(Value.slice av n cv)=h2 (X ⟨b,off,Y⟩) n i8:=by rw[hv,c3.o]
 cases jn;rw[gi]at al e0 e1;have aC:=d3 q b2;obtain⟨x,hx⟩:=Qe (z[q].2);rw[hx]at al e2;obtain⟨r,V⟩:=Qe (l.getD q rec0);have HR:=Z V;have i6:=Z hx;rw[V]at al e0 e1 aC;obtain⟨rk,rl,A⟩:=r;dsimp only at al e0 e1 aC;have k1:=Z (al.kept (w:=wr) (w':=wr) (λ_ _ _=>rfl));have iF:=al;obtain⟨a0,c0,rfl⟩:=al.shape;have c6:=Z aC;clear dd h0 ds gi gO hv hx V aC iF;obtain⟨G,bv⟩:=Qe (wr.alloc (hi #[J hg rk.toNat,J hg rl.toNat,h2 a0 A.length c0] 62));have g8:Bw wr G:=by rw[<- bv];exact(lf _ wr).alloc (kk _) _
 have hF:G.heap[wr.heap.size]?=X (hi #[J hg rk.toNat,J hg rl.toNat,h2 a0 A.length c0] 62 (0,0)):=by rw[<- bv];exact l7 wr _
 obtain⟨R,cc⟩:=Qe wr.heap.size;rw[cc]at hF;have HF:=Z hF;have d1:=Z (HP.below g8);have es:Hid (∀W,Below KB w1 W->ag 0 W.heap.size W (h2 a0 A.length c0) A):=λW hb=>by obtain⟨ao,_,y⟩:=ft W hb;have y:=y _ (lp bt);have gy:=fr q bt;rw[HR.o]at gy;rw[gy,i6.o]at y;exact y.mono (kk _) ao.size
 have hJ:Hid (Calls prog 129 #[.agg #[J hg rk.toNat,J hg rl.toNat,h2 a0 A.length c0]] G λe w'=>∃v,e=ih v/\ce G.heap.size w' v ⟨rk,rl,A⟩/\Bw G w'):=Co rk rl _ A G (es G d1.b) c6.o;have g3:G.heap.size=R+1:=by rw[<- bv,<- cc];simp
 have k2:=Z g3;have hX:=Z bv;have hR:=Z cc;obtain⟨d6,d7,d8⟩:G.cell? ⟨R,0,Y⟩=X (J hg rk.toNat)/\G.cell? ⟨R,1,Y⟩=X (J hg rl.toNat)/\G.cell? ⟨R,2,Y⟩=X (h2 a0 A.length c0):=⟨(aa hF 0).trans rfl,(aa hF 1).trans rfl,(aa hF 2).trans rfl⟩;clear bv cc g8 hF g3 al fp;go_upto_region 8 with fail;rw[hX.o,hR.o];go_upto_region 9 with(go_at_call 129;refine l4 hJ.o ?_;rintro e w3⟨v3,rfl,dx,cd⟩;obtain⟨⟨ta,tb,tc,hd,hf,td,te⟩,rfl⟩:=dx.form;have a9:=Z (d1.o.below cd);have hw:=Z dx;have er:=Z ((cd.block _ (ae HF.o)).trans HF.o);have k0:=Z cd;obtain⟨t',_,z0,z1,z2,z3,z4⟩:=a9.o.kn.get b2;have f0:=a9.o.kn.frozen (q*5);have f1:=a9.o.kn.frozen (q*5+1);have f2:=a9.o.kn.frozen (q*5+2);have f3:=a9.o.kn.frozen (q*5+3);have f4:=a9.o.kn.frozen (q*5+4);unfold ftV;dsimp only;clear dx cd)
 obtain⟨E,cp⟩:=Qe (putKn w3 KB q ⟨ta,tb,tc,hd,hf,td,te⟩);have f9:Hid (PR KB (BY+2) KB BY (BY+1) w1 E l (q+1) (gY l q []) (λp=>cameR l q [] p=true) (λp=>cameR l q [] p=true/\40<=pointsR (l.getD p.1 rec0) (l.getD p.2 rec0)) (q*a8) u6):=by
  rw[<- cp];refine a9.known b2 (ce.mono (f:=G.heap.size) ?_ ?_)
  .rw[HR.o];exact hw.o
  obtain⟨m,hm,_⟩:=d1.se;exact hm.lt
 have cx:Hid (E.heap[R]?=X (hi #[J hg rk.toNat,J hg rl.toNat,h2 a0 A.length c0] 62 (0,0))):=by
  unfold Hid;rw[<- cp,(iU w3 KB q _).block R (λe=>?_)]
  .exact er.o
  obtain⟨⟨cu,iD⟩,_⟩:=a9.kn.blk;exact dp er.o iD (by decide) e
 rw[show((((w3.setCell {block:=KB,off:=q*5} (Value.map ta)).setCell {block:=KB,off:=q*5+1} (Value.string {data:=List.toArray tb})).setCell {block:=KB,off:=q*5+2} (Value.slice tc hd hf)).setCell {block:=KB,off:=q*5+3} (Value.int IntKind.i64 td)).setCell {block:=KB,off:=q*5+4} (Value.int IntKind.u8 ↑te.toNat)=E from cp];clear cp z0 z1 z2 z3 z4 f0 f1 f2 f3 f4 d6 d7 d8 e0 e1 e2;obtain⟨d6,d7,d8⟩:E.cell? ⟨R,0,Y⟩=X (J hg rk.toNat)/\E.cell? ⟨R,1,Y⟩=X (J hg rl.toNat)/\E.cell? ⟨R,2,Y⟩=X (h2 a0 A.length c0):=⟨(aa cx.o 0).trans rfl,(aa cx.o 1).trans rfl,(aa cx.o 2).trans rfl⟩;have eg:Hid (Calls prog 130 #[.agg #[J hg rk.toNat,J hg rl.toNat,h2 a0 A.length c0]] E λe w'=>∃v,e=ih v/\w'.ownsRow E.heap.size 9 1 v (keysR A).length ((keysR A).map λs=>S s)/\Bw E w'):=BK rk rl _ A E (es E f9.b) c6.o;have iS:(keysR A).length<=10000000000000:=Au c6.o;have f5:=Z (λs(hs:s∈keysR A)=>A9 c6.o hs);have f6:=Z (ir A);have c1:Hid (keysR (l.getD q rec0).fields=keysR A):=by unfold Hid;rw[HR.o]
 obtain⟨u,gq⟩:=Qe (keysR A);rw[gq]at eg iS f5 f6 c1;clear gq;go_upto_region 10 with(go_at_call 130;refine l4 eg.o ?_;rintro e w5⟨v5,rfl,e4,g7⟩;obtain⟨a5,k5,rfl⟩:=aQ e4;have hG:=Z e4;have ac:=Z (f9.o.below g7);clear e4 g7)
 clear d6 d7 d8;go_loopw [6,34] (λv i wr=>∃p:Nat,p<=u.length/\i=J U p/\Hid (PR KB (BY+2) KB BY (BY+1) w1 wr l (q+1) (gY l q (u.take p)) (λd=>cameR l q (u.take p) d=true) (λd=>cameR l q (u.take p) d=true/\40<=pointsR (l.getD d.1 rec0) (l.getD d.2 rec0)) (q*a8+p) v)/\Hid (wr.ownsRow E.heap.size 9 1 (h2 a5 u.length k5) u.length (u.map λs=>S s))) (λ_ i _=>u.length-(intOf i).toNat)
 case atStart=>exact⟨0,l2 _,rfl,by rw[List.take_zero,Nat.add_zero];exact ac.o,hG.o⟩
 obtain⟨p,hp,rfl,b7,b5⟩:=hrel;by_cases hlp:p<u.length;rotate_left
 .have hN:Hid (PR KB (BY+2) KB BY (BY+1) w1 wr l (q+1) (gY l (q+1) []) (λd=>cameR l (q+1) [] d=true) (λd=>cameR l (q+1) [] d=true/\40<=pointsR (l.getD d.1 rec0) (l.getD d.2 rec0)) ((q+1)*a8) u6):=by
   have h:=b7.o;rw[l6 (by omega)]at h;refine h.congr (λs i=>?_) (λd=>?_) (λd=>?_) (by rw[Nat.succ_mul,em.o];omega)
   .rw[zh,c1.o]
   .rw[oM,c1.o]
   rw[oM,c1.o]
  clear b7 b5;go_wp2_with fail;go_roundw;exact⟨q+1,b0,by go_num,hN⟩;simp[intOf];omega
 have h3:=lp hlp;have d4:Hid (u.take (p+1)=u.take p++[u[p]]):=lE hlp;have b4:Hid (u[p]∉u.take p):=λhm=>by have y:=f6.1;rw[<- List.take_append_drop p u,List.drop_eq_getElem_cons hlp,lQ]at y;exact y.2.2 _ hm _ List.mem_cons_self rfl
 obtain⟨g5,kd,dk,_⟩:=lv b5.o (by omega);cases dk;have gd:wr.cell? ⟨g5,p,Y⟩=X (S u[p]):=by rw[b5.o.cellAt p (by omega),lT,la hlp];rfl
 have d2:=Z (f5 _ h3);obtain⟨s,hs⟩:=Qe (u[p]);rw[hs]at d4 b4 gd d2;clear hs h3;have bl:¬gY l q (u.take p) s q:=by
  rintro(⟨y,_⟩|⟨_,y⟩)
  .omega
  exact b4 y
 have g2:q*a8+p<=100000000000000000:=by have:=Nat.mul_le_mul_right a8 (show q<=1000 by omega);have hb:=em.o;omega
 obtain⟨x,zs,cm,e9,e8,e6,_⟩:=b7.places g2 s d2.o q bl;obtain⟨ax,kx,rfl⟩:=aQ e9;have i7:=Z e9;have k4:=Z e8;have g0:=Z e6;have kc:zs.length<=1000:=by
  have:=fD zs (lx n) e8 (λi M=>by rw[List.mem_range];rcases(e6 i).1 M with⟨y,_⟩|⟨y,_⟩<;>omega)
  rw[List.length_range]at this;omega
 clear e9 e8 e6 bl;go_upto_region 13 with fail;clear cm gd;have hM:=b7;have hI:=b5;clear b7 b5;generalize wr=wB at*;go_loopw [6,42] (λv i wr=>∃j:Nat,j<=zs.length/\i=J U j/\Hid (PR KB (BY+2) KB BY (BY+1) w1 wr l (q+1) (gY l q (u.take p)) (λd=>cameR l q (u.take p) d=true∨d.2=q/\d.1∈zs.take j) (λd=>(cameR l q (u.take p) d=true∨d.2=q/\d.1∈zs.take j)/\40<=pointsR (l.getD d.1 rec0) (l.getD d.2 rec0)) (q*a8+p) v)/\Hid (wr.ownsRow E.heap.size 9 1 (h2 (X ⟨g5,0,Y⟩) u.length k5) u.length (u.map λs=>S s))/\Hid (wr.ownsRow KB 3 1 (h2 ax zs.length kx) zs.length (gw zs))) (λ_ i _=>zs.length-(intOf i).toNat)
 case atStart=>exact⟨0,l2 _,rfl,hM.o.congr (λ_ _=>Iff.rfl) (λd=>by simp) (λd=>by simp) (kk _),hI.o,i7.o⟩
 obtain⟨j,hj,rfl,c5,c4,b8⟩:=hrel;by_cases hlj:j<zs.length;rotate_left
 .have ha:zs.take j=zs:=l6 (by omega);have fb:Hid (PR KB (BY+2) KB BY (BY+1) w1 wr l (q+1) (gY l q (u.take p)) (λd=>cameR l q (u.take (p+1)) d=true) (λd=>cameR l q (u.take (p+1)) d=true/\40<=pointsR (l.getD d.1 rec0) (l.getD d.2 rec0)) (q*a8+p) u6):=by
   have h:=c5.o;rw[ha]at h;have e:∀d,cameR l q (u.take (p+1)) d=true↔(cameR l q (u.take p) d=true∨d.2=q/\d.1∈zs):=λd=>by rw[d4.o,xE b4.o,g0.o]
   exact h.congr (λ_ _=>Iff.rfl) e (λd=>by rw[e]) (kk _)
  clear c5 b8 ha;have bl:¬gY l q (u.take p) s q:=by
   rintro(⟨y,_⟩|⟨_,y⟩)
   .omega
   exact b4 y
  obtain⟨x,ys,cm,e5,h8,h7,gx⟩:=fb.places g2 s d2.o q bl;obtain⟨ay,ky,rfl⟩:=aQ e5;have kb:ys.length<=1000:=by
   have:=fD ys (lx n) h8 (λi M=>by rw[List.mem_range];rcases(h7 i).1 M with⟨y,_⟩|⟨y,_⟩<;>omega)
   rw[List.length_range]at this;omega
  have fy:=Z e5;have hO:=Z gx;have k8:=fb.los.2.2.2.2;obtain⟨iN,bd,bw,bA,bB⟩:=info_parts i3;have HI:=Z bd;have cy:=Z bw;have cz:=Z bA;have cP:=Z bB;clear e5 h8 h7 gx bl bd bw bA bB;have g9:Bw wr (wr.alloc (hi #[J U (q:Int)] 3)):=(lf _ wr).alloc (kk _) _;have bO:=Z g9;clear g9
  go_wp2_with (first
   |(at_builtin;(refine wpList_append_own_at _ rfl _ _ 84 rfl KB 3 iN (J U 0) 1 8 underlying84 HI.o cy.o cz.o cP.o rfl (by decide) (h2 ay ys.length ky) ys.length (gw ys) ?_ ?_ ⟨wr.heap.size,0,Y⟩ 1 1 [J U (q:Int)] ?_ ?_ ?_ ?_ ?_ ?_ ?_ ?_);(focus rfl);(focus exact ai fy.o (λg F=>bO.o.block g (fy.o.lt g F).2));(focus rfl);(focus rfl);(focus exact cell_one_new _ _ _);(focus simp[Value.oneCell']);(focus (unfold maxLen;omega));(focus omega);(focus (have:=bO.o.size;omega));intro v' w7 bs bc _ gs;obtain⟨W8,h6,d0,gp⟩:=hO.o v' _ w7 bO.o bc bs gs;have hV:=Z h6;have d0:=Z d0;have hy:=Z gp;clear bs bc gs h6 gp)
   |(at_mapUpdate;refine wpList_plain rfl λK hK=>?_;refine fQ rfl hV.o ?_;refine hK _ _ ?_))
  go_roundw
  case rel=>
   refine⟨p+1,hlp,by go_num,d0.o.congr (λt i=>?_) (λ_=>Iff.rfl) (λ_=>Iff.rfl) (by omega),ai c4.o (λg F=>?_)⟩
   .rw[d4.o,zg]
   obtain⟨c,L⟩:=aH c4.o F;have D:=bO.block g (ae L);exact(hy g c (D.trans L)).trans D
  simp[intOf];omega
 obtain⟨gz,kz,dk,_⟩:=lv b8.o (by omega);cases dk;have h9:wr.cell? ⟨gz,j,Y⟩=X (J U (zs[j]:Int)):=by rw[b8.o.cellAt j (by omega)];unfold gw;rw[lT,la hlj];rfl
 have e7:=(g0 zs[j]).1 (lp hlj);have c7:Hid (zs.take (j+1)=zs.take j++[zs[j]]):=lE hlj;obtain⟨i,M⟩:=Qe (zs[j]);rw[M]at h9 e7 c7;have iQ:i<q:=by
  rcases e7 with⟨y,_⟩|⟨_,y⟩
  .exact y
  exact absurd y b4.o
 clear M e7;obtain⟨wz,cq⟩:=Qe (wr.alloc (hi #[J U (i:Int),J U (q:Int)] 211));have bb:Bw wr wz:=by rw[<- cq];exact(lf _ wr).alloc (kk _) _
 have hZ:wz.heap[wr.heap.size]?=X (hi #[J U (i:Int),J U (q:Int)] 211 (0,0)):=by rw[<- cq];exact l7 wr _
 obtain⟨sb,gQ,cm,W5,h4,ac,gb⟩:=(c5.o.below bb).seen (by rw[b3.o];exact hn) i q iQ b2;have hQ:=Z (c5.below bb);have cQ:Hid (wz.ownsRow E.heap.size 9 1 (h2 (X ⟨g5,0,Y⟩) u.length k5) u.length (u.map λs=>S s)):=ai c4.o (λg F=>bb.block g (c4.lt g F).2);have d5:Hid (wz.ownsRow KB 3 1 (h2 (X ⟨gz,0,Y⟩) zs.length kx) zs.length (gw zs)):=ai b8.o (λg F=>bb.block g (b8.lt g F).2);obtain⟨z0,z1⟩:=dm hZ;have hY:=Z cq;obtain⟨Rz,d9⟩:=Qe wr.heap.size;rw[d9]at z0 z1;have hS:=Z d9;have fx:=Z gQ;have ac:=Z ac;have hT:=Z h4;have eq:=Z gb;clear cq bb hZ d9 gQ h4 gb;go_upto_region 16 with fail;rw[hY.o,hS.o];clear h9;cases sb;rotate_left
 .have HC:=Z (fx.1 rfl);go_wp2_with fail;go_roundw
  case rel=>
   refine⟨j+1,hlj,by go_num,hQ.congr (λ_ _=>Iff.rfl) (λd=>?_) (λd=>?_) (kk _),cQ.o,d5.o⟩
   .rw[c7.o];exact(nY (C:=λd=>cameR l q (u.take p) d=true) HC.o d).symm
   rw[c7.o];exact and_congr_left' (nY (C:=λd=>cameR l q (u.take p) d=true) HC.o d).symm
  simp[intOf];omega
 have hC:=Z (λL=>Bool.false_ne_true (fx.2 L));go_upto_region 18 with(at_mapUpdate;refine wpList_plain rfl λK hK=>?_;refine fQ rfl hT.o ?_;refine hK _ _ ?_)
 have ib:=ac.o.kn.get (i:=i) (by omega);have it:=ac.kn.get (i:=q) b2;obtain⟨⟨x1,x2,x3,x4,x5,x6,x7⟩,ch,i0,i1,i2,i3,i4⟩:=ib;obtain⟨⟨y1,y2,y3,y4,y5,y6,y7⟩,cl,j0,j1,j2,j3,j4⟩:=it;dsimp only at i0 i1 i2 i3 i4 j0 j1 j2 j3 j4;have ch:=ch (by omega);have cl:=cl (by omega);have ia:=ac.kn.blk.2.1
 have hA:Hid (∀W,Bw W5 W->(W.cell? ⟨KB,i*5,Y⟩=X (.map x1)/\W.cell? ⟨KB,i*5+1,Y⟩=X (S x2)/\W.cell? ⟨KB,i*5+2,Y⟩=X (h2 x3 x4 x5)/\W.cell? ⟨KB,i*5+3,Y⟩=X (J U x6)/\W.cell? ⟨KB,i*5+4,Y⟩=X (J hg x7.toNat))/\
  (W.cell? ⟨KB,q*5,Y⟩=X (.map y1)/\W.cell? ⟨KB,q*5+1,Y⟩=X (S y2)/\W.cell? ⟨KB,q*5+2,Y⟩=X (h2 y3 y4 y5)/\W.cell? ⟨KB,q*5+3,Y⟩=X (J U y6)/\W.cell? ⟨KB,q*5+4,Y⟩=X (J hg y7.toNat))):=λW hb=>by
  have Q:∀o,W.cell? ⟨KB,o,Y⟩=W5.cell? ⟨KB,o,Y⟩:=λo=>World.cell?_of_block (a:=⟨KB,o,Y⟩) (hb.block KB ia)
  rw[Q,Q,Q,Q,Q,Q,Q,Q,Q,Q]
  exact⟨⟨i0,i1,i2,i3,i4⟩,j0,j1,j2,j3,j4⟩
 have iP:i<l.length:=by omega
 have k7:i<n:=by omega
 have fl:Hid (∀W,Bw W5 W->Calls prog 131 #[.agg #[.map x1,S x2,h2 x3 x4 x5,J U x6,J hg x7.toNat],.agg #[.map y1,S y2,h2 y3 y4 y5,J U y6,J hg y7.toNat]] W λe w'=>e=ih (J U (pointsR (l.getD i rec0) (l.getD q rec0)))/\Bw W w'):=λW hb=>
  tR _ _ _ _ _ _ W (ce.below ch hb) (ce.below cl hb) (eH (d3 i iP)) (eH (d3 q b2))
 clear i0 i1 i2 i3 i4 j0 j1 j2 j3 j4 ch cl cm z0 z1;obtain⟨P,hP⟩:=Qe (pointsR (l.getD i rec0) (l.getD q rec0));have fc:=Z hP;rw[hP]at fl;clear hP;go_simp;have ao:Bw W5 W5.drew:=(lf _ W5).drew;refine Wb W5 999 ?_;refine Qd [0,1,2,3,4,5,6,7] ao hA ?_;refine Dq 8 λK hK=>?_;go_simp;go_at_call 131;refine l4 (fl _ ao) ?_;rintro e T⟨rfl,ad⟩;have ad:Bw W5 T:=ao.trans (ad.mono ao.size);refine hK _ _ (λ_=>ad) ?_;clear hK K;refine Qc [9] ad ?_
 refine dN ?_;have aS:=Z (ac.below ad);have f7:Hid (T.ownsRow E.heap.size 9 1 (h2 (X ⟨g5,0,Y⟩) u.length k5) u.length (u.map λs=>S s)):=ai cQ.o (λg F=>by obtain⟨c,L⟩:=aH cQ.o F;have h5:=eq g c 9 L;exact(ad.block g (ae (h5.trans L))).trans h5)
 have fz:Hid (T.ownsRow KB 3 1 (h2 (X ⟨gz,0,Y⟩) zs.length kx) zs.length (gw zs)):=ai d5.o (λg F=>by obtain⟨c,L⟩:=aH d5.o F;have h5:=eq g c 3 L;exact(ad.block g (ae (h5.trans L))).trans h5)
 clear ad ao;have bY:Hid (∀d,(cameR l q (u.take p) d=true∨d.2=q/\d.1∈zs.take (j+1))↔((cameR l q (u.take p) d=true∨d.2=q/\d.1∈zs.take j)∨d=(i,q))):=λd=>by rw[c7.o];exact tV (C:=λd=>cameR l q (u.take p) d=true) d
 by_cases hP40:40<=P;rotate_left
 .go_wp2_with fail;go_roundw
  case rel=>
   refine⟨j+1,hlj,by go_num,aS.congr (λ_ _=>Iff.rfl) bY.o (λd=>?_) (kk _),f7.o,fz.o⟩;rw[bY.o];constructor
   .rintro⟨y|y,D⟩
    .exact⟨y,D⟩
    rw[y]at D;dsimp only at D;rw[fc.o]at D;exact absurd D hP40
   rintro⟨y,D⟩;exact⟨.inl y,D⟩
  simp[intOf];omega
 obtain⟨I,ho⟩:=aS.o.o;obtain⟨au,cu,rfl⟩:=aQ ho.1;have HO:=Z ho;have gt:I.length<=1000000:=by
  have y:=mj (n:=l.length) (m:=I.map nl) (by
   rw[List.Nodup,lP];refine List.Pairwise.imp ?_ ho.2.1;intro a b da e;injection e with e1 e2
   exact da (Prod.ext (by omega) (by omega))) (λp hp=>by
   obtain⟨o,jb,rfl⟩:=List.mem_map.1 hp;have:=aS.cb _ (aS.ob _ ((ho.2.2 o).1 jb));exact⟨o.1,o.2,rfl,by omega,this.2⟩)
  rw[kl]at y;have bk:l.length<=1000:=by rw[b3.o];exact hn
  exact ko y (ko (l5 bk bk) (by omega))
 have k9:KB<=T.heap.size:=aS.los.2.2.2.2;obtain⟨iN,bd,bw,bA,bB⟩:=info_parts i67;have HI:=Z bd;have cy:=Z bw;have cz:=Z bA;have cP:=Z bB;clear ho bd bw bA bB;go_wp2_with (at_builtin;(refine wpList_append_own_at _ rfl _ _ 65 rfl KB 67 iN (.agg #[J U 0,J U 0]) 2 16 underlying65 HI.o cy.o cz.o cP.o rfl (by decide) (h2 au I.length cu) I.length (I.flatMap cN) ?_ ?_ ⟨T.heap.size,0,Y⟩ 1 1 [J U (i:Int),J U (q:Int)] ?_ ?_ ?_ ?_ ?_ ?_ ?_ ?_);(focus rfl);(focus exact ai HO.o.1 (λg F=>((lf _ T).alloc (kk _) _).block g (HO.o.1.lt g F).2));(focus rfl);(focus rfl);(focus exact cell_two_new _ _ _ _);(focus simp[Value.oneCell']);(focus (unfold maxLen;omega));(focus omega);(focus (simp;omega));intro v' w7 bs bc _ _;have hH:=Z bs;have ex:=Z bc;clear bs bc)
 have dc:Bw T (T.alloc (hi #[J U (i:Int),J U (q:Int)] 67)):=(lf _ T).alloc (kk _) _;have hL:=aS.outs (i:=i) (k:=q) (.inr rfl) (λh=>hC h.1) dc ex.o HO.o hH.o;have gf:∀{lo e n:Nat}{v:kv}{z:List kv},T.ownsRow lo e 1 v n z->e≠67->w7.ownsRow lo e 1 v n z:=λ{lo e n v z}V he=>ai V (λg F=>by
  have b0:=(V.lt g F).2;rw[ex.o.block g (lB b0 dc.size) (λe2=>by obtain⟨c,L⟩:=aH V F;obtain⟨c2,iv⟩:=aH HO.1 e2.symm;exact dp L iv he rfl)]
  exact dc.block g b0)
 go_roundw
 case rel=>
  refine⟨j+1,hlj,by go_num,hL.congr (λ_ _=>Iff.rfl) bY.o (λd=>?_) (kk _),gf f7.o (by decide),gf fz.o (by decide)⟩;rw[bY.o];constructor
  .rintro⟨y|y,D⟩
   .exact .inl ⟨y,D⟩
   exact .inr y
  rintro(⟨y,D⟩|y)
  .exact⟨.inl y,D⟩
  refine⟨.inr y,?_⟩;rw[y];dsimp only;rw[fc.o];exact hP40
 simp[intOf];omega
end
end Go.Proofs.YtjcimanddakkaaaGreatDoor
