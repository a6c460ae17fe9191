/- What the proof of this claim leans on, part 3. -/
import Derived.Test.YtbnkgnfhgbhblaaGreatFMendPlansp2
set_option linter.all false
set_option maxRecDepth 100000
open Go Go.Esc
open Bool renaming and_eq_true→E69,and_false→E75,false_and→E7f,not_eq_true'→E7V,not_false→E77,not_true→E8a,or_eq_true→E74,true_and→E7j,false→A6,true→A5
open Int renaming cast_ofNat_Int→E7F,toNat_natCast→E7r
open List renaming all_cons→E7P,all_eq_true→E70,append_assoc→E7c,append_nil→E7w,cons_append→E7E,drop_drop→E7X,drop_eq_getElem_cons→E7d,drop_of_length_le→E7k,drop_zero→E7p,getD_eq_getElem?_getD→E7e,getElem?_cons_succ→E7S,getElem?_drop→E7W,getElem?_eq_getElem→E66,getElem?_eq_none→E7L,getElem?_take_of_lt→E7G,getElem_mem→E7J,length_append→E7a,length_cons→E7g,length_drop→E72,length_nil→E7v,length_replicate→E7B,length_set→E7D,length_take→E7A,map_append→E71,map_cons→E79,mem_cons_of_mem→E7s,mem_cons_self→E7u,mem_of_getElem?→E7y,mem_or_eq_of_mem_set→E7O,nil_append→E7m,range→E7C,range'→E7M,replicate→E68,replicate_succ→E7z,set_append_right→E7I,set_cons_succ→E7U,set_cons_zero→E7T,take_of_length_le→E7i,take_succ_eq_append_getElem→E7n,take_zero→E76
open Nat renaming le_refl→E7b,le_trans→E7K,min_eq_left→E73,mod_eq_of_lt→E7Y,sub_self→E7R,zero_add→E7t
open Option renaming bind_some→E7h,getD_none→E7Z,getD_some→E7N,isSome_none→E7x,isSome_some→E7o,none→A7,some→A4
open Go.Proofs.Tryz renaming prog→A8
namespace Go.Proofs.YtbnkgnfhgbhblaaGreat
def D5h (h:Nat) (c:UInt8):Nat:=((h ^^^ c.toNat)*16777619)%4294967296
def B2B (h:Nat) (s:List UInt8):Nat:=s.foldl D5h h
def zF (s:List UInt8):Nat:=B2B 2166136261 s
theorem D3o {h:Nat} {c:UInt8}:D5h h c<4294967296:=Nat.mod_lt _ (by omega)
theorem D6A {s:List UInt8}:∀ {h:Nat},h<4294967296->B2B h s<4294967296:=by
 induction s with
 | nil=>intro h hh;exact hh
 | cons c s ih=>intro h _;exact ih D3o
theorem C4O {s:List UInt8}:zF s<4294967296:=D6A (by omega)
theorem D3T {a:Int}:IntKind.wrap .u32 a=a%4294967296:=by
 simp only [IntKind.wrap,IntKind.bits,IntKind.signed,E7f];rfl
theorem B4b {s:List UInt8} (hs:s.length<9223372036854775807) {q:Nat} {h:B5}:∀ (d i m H:Nat),i+d=s.length->d<m->H<4294967296 ->
  C25 q m (.c (.i .u32 H)) (.c (.s s)) (iV s.length) (iV i) h=A4 (.c (.i .u32 ((B2B H (s.drop i):Nat):Int)),h)
 | d,i,0,H,_,hm,_=>by omega
 | 0,i,m+1,H,hi,hm,hH=>by
  have c0:¬ (i:Int)<s.length:=by omega
  rw [B1R,E7k (by omega)];simp only [esc,c0,B2B,List.foldl_nil]
 | d+1,i,m+1,H,hi,hm,hH=>by
  have h2:i<s.length:=by omega
  have hb:=s[i].toNat_lt;have ih:=B4b hs (q:=q) (h:=h) d (i+1) m (D5h H s[i]) (by omega) (by omega) D3o;have c0:(i:Int)<s.length:=by omega
  have e1:IntKind.wrap .u32 (s[i].toNat:Int)=s[i].toNat:=wrap_u32 (by omega) (by omega);have e2:=E3d (a:=H) (b:=s[i].toNat) hH (by omega);have e3:IntKind.wrap .u32 (((H ^^^ s[i].toNat:Nat):Int)*16777619)=((D5h H s[i]:Nat):Int):=by
   rw [D3T];unfold D5h;omega
  rw [B1R,E7d h2];simp only [esc,c0,jX h2,e1,e2,e3,D3 (show i+1<9223372036854775808 by omega)];exact ih
theorem D1R {s:List UInt8} (hs:s.length<9223372036854775807) {h:B5}:C6B [.c (.s s)] h=A4 (.c (.i .u32 ((zF s:Nat):Int)),h):=by
 have hm:∀ h,B5v [.c (.i .u32 2166136261),.c (.s s)] h=A4 (.c (.i .u32 ((zF s:Nat):Int)),h):=λh=>by
  refine C4m (n:=s.length+1) (h2:=ro h) ?_ rfl;rw [C9D];have:=B4b hs (q:=s.length+1) (h:=ro h) s.length 0 (s.length+1) 2166136261 (by omega) (by omega) (by omega);simp only [esc];exact this
 refine C9Y (n:=0) (h2:=ro h) ?_ rfl;rw [D30];simp only [esc,hm]
theorem E3c {h c:Nat} (hc:c<256):h-h%256+(h%256 ^^^ c)=h ^^^ c:=by
 have e1:(h ^^^ c)/256=h/256:=by
  have:=Nat.xor_div_two_pow (a:=h) (b:=c) (n:=8);rw [show (2:Nat) ^ 8=256 from rfl,Nat.div_eq_of_lt hc,Nat.xor_zero] at this;exact this
 have e2:(h ^^^ c)%256=h%256 ^^^ c:=by
  have:=Nat.xor_mod_two_pow (a:=h) (b:=c) (n:=8);rw [show (2:Nat) ^ 8=256 from rfl,E7Y hc] at this;exact this
 have h1:=Nat.div_add_mod (h ^^^ c) 256;have h2:=Nat.div_add_mod h 256;rw [e1,e2] at h1;omega
theorem A8P {s:List UInt8} (hs:s.length<9223372036854775807) {q:Nat} {h:B5}:∀ (d i m H:Nat),i+d=s.length->d<m->H<4294967296 ->
  B77 q m (.c (.i .u64 H)) (.c (.s s)) (iV i) h=A4 (.c (.i .u64 ((B2B H (s.drop i):Nat):Int)),h)
 | d,i,0,H,_,hm,_=>by omega
 | 0,i,m+1,H,hi,hm,hH=>by
  have c0:¬ (i:Int)<s.length:=by omega
  rw [A8n,E7k (by omega)];simp only [esc,c0,B2B,List.foldl_nil]
 | d+1,i,m+1,H,hi,hm,hH=>by
  have h2:i<s.length:=by omega
  have hb:=s[i].toNat_lt;have ih:=A8P hs (q:=q) (h:=h) d (i+1) m (D5h H s[i]) (by omega) (by omega) D3o;have c0:(i:Int)<s.length:=by omega
  have hx:(H ^^^ s[i].toNat)<2 ^ 32:=Nat.xor_lt_two_pow (by simpa using hH) (by omega);have e0:O4 .rem (.c (.i .u64 (H:Int))) (.c (.i .u64 256))=A4 (.c (.i .u64 ((H%256:Nat):Int))):=by
   rw [A8R (by omega) (by omega)];simp
  have e1:IntKind.wrap .u64 (s[i].toNat:Int)=s[i].toNat:=wrap_u64 (by omega) (by omega);have e2:O4 .xor (.c (.i .u64 ((H%256:Nat):Int))) (.c (.i .u64 (s[i].toNat:Int)))=A4 (.c (.i .u64 ((H%256 ^^^ s[i].toNat:Nat):Int))):=by
   rw [D4a];have h1:(IntKind.u64).bits=64:=rfl;have h3:(H%256 ^^^ s[i].toNat)<2 ^ 64:=Nat.xor_lt_two_pow (by omega) (by omega);rw [h1];simp only [BitVec.ofInt_natCast,BitVec.toNat_xor,BitVec.toNat_ofNat];rw [E7Y (show H%256<2 ^ 64 by omega),E7Y (show s[i].toNat<2 ^ 64 by omega)];exact congrArg A4 (congrArg Val.c (congrArg (Cell.i .u64) (wrap_u64 (by omega) (by omega))))
  have hl:=E3c (h:=H) (c:=s[i].toNat) (by omega);have e3:IntKind.wrap .u64 ((H:Int)-((H%256:Nat):Int))=((H-H%256:Nat):Int):=by rw [wrap_u64 (by omega) (by omega)];omega
  have e4:IntKind.wrap .u64 (((H-H%256:Nat):Int)+((H%256 ^^^ s[i].toNat:Nat):Int))=((H ^^^ s[i].toNat:Nat):Int):=by
   have e:((H-H%256:Nat):Int)+((H%256 ^^^ s[i].toNat:Nat):Int)=((H ^^^ s[i].toNat:Nat):Int):=by rw [<-hl];omega
   rw [e];exact wrap_u64 (by omega) (by omega)
  have e5:IntKind.wrap .u64 (((H ^^^ s[i].toNat:Nat):Int)*16777619)=(((H ^^^ s[i].toNat)*16777619:Nat):Int):=by
   have e:((H ^^^ s[i].toNat:Nat):Int)*16777619=(((H ^^^ s[i].toNat)*16777619:Nat):Int):=by omega
   rw [e];exact wrap_u64 (by omega) (by omega)
  have e6:O4 .rem (.c (.i .u64 (((H ^^^ s[i].toNat)*16777619:Nat):Int))) (.c (.i .u64 4294967296))=A4 (.c (.i .u64 ((D5h H s[i]:Nat):Int))):=by
   rw [A8R (a:=(((H ^^^ s[i].toNat)*16777619:Nat):Int)) (b:=4294967296) (by omega) (by omega)];unfold D5h;exact congrArg A4 (congrArg Val.c (congrArg (Cell.i .u64) (by omega)))
  rw [A8n,E7d h2];simp only [esc,c0,e0,jX h2,e1,e2,e3,e4,e5,e6,D3 (show i+1<9223372036854775808 by omega)];exact ih
theorem C3b {s:List UInt8} (hs:s.length<9223372036854775807) {h:B5}:B9S [.c (.s s)] h=A4 (.c (.i .u64 ((zF s:Nat):Int)),h):=by
 have hm:∀ h,A91 [.c (.i .u64 2166136261),.c (.s s)] h=A4 (.c (.i .u64 ((zF s:Nat):Int)),h):=λh=>by
  refine B9R (n:=s.length+1) (h2:=ro h) ?_ rfl;rw [C5t];exact A8P hs (q:=s.length+1) (h:=ro h) s.length 0 (s.length+1) 2166136261 (by omega) (by omega) (by omega)
 refine C59 (n:=0) (h2:=ro h) ?_ rfl;rw [D2o];simp only [esc,hm]
noncomputable section
variable (n m m2:Nat) (a0 x1 x3 x10:Val) (h:B5)
def bC:FD A8:=⟨px 0X11211212015211212241e82d161e47c61c044c61907c4961a7c61c142e4d182d1215211212241a81a11637c496187c61c14294d5180241881a11889657c61c141e4d41a1220246c1a149617c61c141b4d41a1221a1211a15211212244c314889657c61c0474d4180243831189617c61c0444d4312231201a05031062ec2112,[],[],[.tmp 2],[]⟩
def A3G:=bC.R
def C84:AtH:=bC.lj 0 n [] [x1,x3]
def C85:AtH:=bC.lj 1 n [] [x1,x10]
def A4b:=tT [⟨1,2,C84⟩,⟨1,2,C85⟩]
def B9J:=mR A3G bC A4b n [a0] h
def V7:=mJ bC A4b 0 n [] [x1,x3] h
def dK:=mJ bC A4b 1 n [] [x1,x10] h
def B3q:=bC.K Tryz.func43
def A38:=bC.S
theorem fA:SOk A8 43 A38:=B3q.sok
theorem B5y:F6 A3G A38:=B3q.flat
def A2k:FD A8:=⟨px 0X11312184881de6291a91e421ac64dc4802c4885839632222bc1816161ac06881a916351ac2c48838518523222c4881de6691a341ac3802c488493945222288011fc6113a6802e3f691f83a164911e431ac61c244c49491703b5cb181196523322c4881de619591e421ac61c144c2c4883855213222c4881de619491e421ac61c044c6e4882a3955213218c24881de1c52d96111ac64ac3b172f162b153141f131b12711310181b1811f3fd55213201783166a4881de5a001c3e843222241637c3e1b121c4214258416101ac4319393421322123101c2d862ec32122,[.c (.i .u8 101),.c (.i .u8 115),.c (.i .u8 99),.c (.i .u8 104),.c (.i .u8 97),.c (.i .u8 116),.c (.i .u8 49)],[.b2s (.t 37)],[.cellN 2 256,.tmp 3],[cal fA,cal A2J,cal wM,cal D2L,cal A69,cal A68,cal C2f]⟩
def A9H:=A2k.R
def C5Z:=mR A9H A2k (tT []) n [a0] h
def C1X:=A2k.K Tryz.func88
def B0B:=A2k.S
theorem B0C:SOk A8 88 B0B:=C1X.sok
theorem C0G:F6 A9H B0B:=C1X.flat
def A2j:FD A8:=⟨px 0X113121831de3834a3933222016d3121831de02a3e83322224632a2a807868b4488783b3c488783b601637c483a174862321cc01c824881de1c72d912a6801e38691bc2d16131ac3832e39181876215262231a8231de12a062df6121a112a1032a3e87e019596321ac44883819496321ac44881f397119621337806c4112e6802a1d69681914916311ac49696301ac44881a391842132102a2d862ec32122,[.c (.b A5)],[.eqA A5 (E68 256 (.i .u8)) (.t 29) (.t 30)],[.cellN 2 3,.tmp 3],[cal A68,cal D2K,cal xK,cal B0C]⟩
def A9G:=A2j.R
def C5Y:=mR A9G A2j (tT []) n [a0] h
def C1W:=A2j.K Tryz.func40
def B0z:=A2j.S
theorem B0A:SOk A8 40 B0z:=C1W.sok
theorem C0F:F6 A9G B0z:=C1W.flat
end
noncomputable section
variable (n m m2:Nat) (a0 a1 x3 x6 x7:Val) (h:B5)
def A6c:FD A8:=⟨px 0X15011012101102,[],[],[.tmp 0],[]⟩
def C5K:=A6c.R
def C9A:=mR C5K A6c (tT []) n [] h
def C5f:=A6c.K Tryz.func56
def B5j:=A6c.S
theorem wL:SOk A8 56 B5j:=C5f.sok
theorem C4i:F6 C5K B5j:=C5f.flat
def B2l:FD A8:=⟨px 0X12c211627c6101ac433842123062ec2112,[.c (.b A6)],[],[.tmp 2],[cal fA]⟩
def B9t:=B2l.R
def D2w:=mR B9t B2l (tT []) n [a0] h
def D0U:=B2l.K Tryz.func118
def C0g:=B2l.S
theorem A61:SOk A8 118 C0g:=D0U.sok
theorem C6w:F6 B9t C0g:=D0U.flat
def A0c:FD A8:=⟨px 0X15c0148214961a7c61c144c5607c0171ad601932230110121232222462bc6101ac433836122113101062ec3112,[],[],[.tmp 2,.tmp 3],[cal A61,cal wL]⟩
def A6s:=A0c.R
def C3A:=mR A6s A0c (tT []) n [a0] h
def B6G:=A0c.K Tryz.func53
def A6Z:=A0c.S
theorem yS:SOk A8 53 A6Z:=B6G.sok
theorem B7r:F6 A6s A6Z:=B6G.flat
def A2g:FD A8:=⟨px 0X1682161a07c3e03e1a142124c0483112a6801e18693c516101ac43639743221062ec2112,[],[],[.tmp 2],[cal yS]⟩
def A9u:=A2g.R
def C5J:=mR A9u A2g (tT []) n [a0] h
def C1K:=A2g.K Tryz.func93
def A2G:=A2g.S
theorem A1l:SOk A8 93 A2G:=C1K.sok
theorem C0e:F6 A9u A2G:=C1K.flat
def uD:FD A8:=⟨px 0X17c216a1f12212787153e01e7d2186c3161e13cc61011113fc3e03e1a15184c411a02764342157633307024763331a617c1187634276330605106101ac4353937633231313b81312213b862ec2112,[],[],[.tmp 2],[cal A1l]⟩
def C5L:=uD.R
def C2Z:AtH:=uD.lj 0 n [m] [x3,x6,x7]
def C6T:=tT [⟨2,3,C2Z⟩]
def C9B:=mR C5L uD C6T n [a0] h
def B1y:=mL uD C6T 0 n [m] [x3,x6,x7] h
def C5g:=uD.K Tryz.func44
def B5k:=uD.S
theorem B3B:SOk A8 44 B5k:=C5g.sok
theorem C6v:oP C5L B5k:=C5g.out
def qM:FD A8:=⟨px 0X118841362e2a861e192f7f62f1f15e2f4f42f360361e2a85641f7f41f3606101ac1e3381d412341022ed22122,[.c (.b A6)],[],[.tmp 4],[cal A61]⟩
def A06:=qM.R
def B60:=mR A06 qM (tT []) n [a0,a1] h
def A9d:=qM.K Tryz.func119
def A1m:=qM.S
theorem B7q:SOk A8 119 A1m:=A9d.sok
theorem B2Y:F6 A06 A1m:=A9d.flat
def A0d:FD A8:=⟨px 0X1701cc01b841496187c5677c4062a07c4961a7c5677c405e2a11b6543218c01887112a6801e28697c1d16111ac6a31e39771220130101413654322462bc61a201ac403e3193941c213221233010141022ed42122,[.c (.b A6),.c (.b A5)],[],[.tmp 4,.tmp 5,.tmp 6],[cal B7q,cal yS]⟩
def A6t:=A0d.R
def C3B:=mR A6t A0d (tT []) n [a0,a1] h
def B6H:=A0d.K Tryz.func54
def A60:=A0d.S
theorem A8d:SOk A8 54 A60:=B6H.sok
theorem B7s:F6 A6t A60:=B6H.flat
def vW:FD A8:=⟨px 0X119841362e2a861e13b7f63b1f06e3b4f43b360362e2a861e41f7f6111f1af3e31f3b41f3606101ac1e3381f412341022ed22122,[.c (.b A6)],[],[.tmp 4],[cal A61,cal A1l]⟩
def A3v:=vW.R
def B9s:=mR A3v vW (tT []) n [a0,a1] h
def B3e:=vW.K Tryz.func80
def A3U:=vW.S
theorem C0f:SOk A8 80 A3U:=B3e.sok
theorem B5i:F6 A3v A3U:=B3e.flat
end
noncomputable section
variable (n m m2:Nat) (a0:Val) (h:B5)
def A56:FD A8:=⟨px 0X129c21364a2a861e16f7f66f1f046f4f61906f7f4961a6f7f66f1f146f4f60362e2a81625b7f496185b7f65b1f145b4f60362a2a81889619497f6491f14494f60362a2a849642f7f62f1f142f4f60362a2a848896191d7f61d1f041d4f60189647c61c044c4a2123062ec2112,[.c (.b A6)],[],[.tmp 2],[]⟩
def B4w:=A56.R
def C9n:=mR B4w A56 (tT []) n [a0] h
def C41:=A56.K Tryz.func91
def B42:=A56.S
theorem A3R:SOk A8 91 B42:=C41.sok
theorem C3Z:F6 B4w B42:=C41.flat
def A57:FD A8:=⟨px 0X11f821611a321ac1c028892889173c5bd42121dc3162e13cc629201ac6111ac06881c01c2e173121ac3162a13cc649201ac61c244c7a29163121883162e13cc619201ac64c861c144c4a1b173122583162e13cc619201ac64c861c044c64ac3b172f162b153141f131b12711310181b18143fd18312213b862ec2112,[.c (.i .u8 101),.c (.i .u8 115),.c (.i .u8 99),.c (.i .u8 104),.c (.i .u8 97),.c (.i .u8 116),.c (.i .u8 49)],[.b2s (.t 23)],[.tmp 2],[cal iH,cal B7h,cal iX]⟩
def B4x:=A57.R
def C9o:=mR B4x A57 (tT []) n [a0] h
def C42:=A57.K Tryz.func92
def B43:=A57.S
theorem C9L:SOk A8 92 B43:=C42.sok
theorem C6e:oP B4x B43:=C42.out
def A55:FD A8:=⟨px 0X173121831de3833d39332220133121831de02a3e83322224673a2a865a2bf61a245a1af05a36135a1af3835a3b6062bc6121ac6a32a391a3b6232622318c231de2a62d96121a112a1032a3e86a019596311ac0019496311ac01c118620325c0584112a6801e1a694c7149696301ac0181742032302a22d922022,[.c (.b A6),.c (.b A5)],[],[.cellN 2 3,.tmp 3],[cal B3y,cal rC,cal A3R,cal C9L,cal bO]⟩
def B4v:=A55.R
def C9m:=mR B4v A55 (tT []) n [a0] h
def C40:=A55.K Tryz.func42
def B41:=A55.S
theorem C9K:SOk A8 42 B41:=C40.sok
theorem C3Y:F6 B4v B41:=C40.flat
end
noncomputable section
variable (n m m2:Nat) (a0 a1 x1 x7 x8 x9:Val) (h:B5)
def A18:FD A8:=⟨px 0X129411412011d4114122461e17c61c1184c49667c19677c42e163b1203011ac415607c4034122419617c42a122b2132212301141141224632e2a861e4387f6381f06a384f438360631e2a8161287f42836062bc6101ac1e3381d2921322123141022ed22122,[.c (.b A5)],[],[.tmp 4],[cal A3R]⟩
def A9o:=A18.R
def C5y:=mR A9o A18 (tT []) n [a0,a1] h
def C1y:=A18.K Tryz.func47
def A97:=A18.S
theorem A1g:SOk A8 47 A97:=C1y.sok
theorem B9X:F6 A9o A97:=C1y.flat
def B2h:FD A8:=⟨px 0X118841362e2a861e192f7f62f1f15e2f4f42f360361e2a85641f7f41f3606101ac1e3381d412341022ed22122,[.c (.b A6)],[],[.tmp 4],[cal A3R]⟩
def B9n:=B2h.R
def D2q:=mR B9n B2h (tT []) n [a0,a1] h
def D0O:=B2h.K Tryz.func173
def B9Y:=B2h.S
theorem D2D:SOk A8 173 B9Y:=D0O.sok
theorem C6f:F6 B9n B9Y:=D0O.flat
def cZ:FD A8:=⟨px 0X1701d801cc414803c3915654321981915607c4a2913180101c8715607c3c04182449627c6e2d122e191871521a81815607c5e2b131918714215191871411a0702461a17c402e1e132819187152191871431918714060550119187142187231019021871320130101413654322462bc61a201ac404a31a3941d1221133010141022ed42122,[.c (.b A6),.c (.b A5)],[],[.tmp 4,.tmp 5,.tmp 6],[cal D2D]⟩
def A6n:=cZ.R
def B3U:AtH:=cZ.lj 0 n [m] [x1,x7,x8,x9]
def D0b:AtH:=cZ.lj 1 n [m] [x1,x7,x8,x9]
def A7e:=tT [⟨2,4,B3U⟩,⟨2,4,D0b⟩]
def C3s:=mR A6n cZ A7e n [a0,a1] h
def A5s:=mL cZ A7e 0 n [m] [x1,x7,x8,x9] h
def A5r:=mJ cZ A7e 1 n [m] [x1,x7,x8,x9] h
def B6y:=cZ.K Tryz.func106
def A6P:=cZ.S
theorem C30:SOk A8 106 A6P:=B6y.sok
theorem B7k:F6 A6n A6P:=B6y.flat
end
def S4 (b n:Int):Bool:=decide (16<=b)&&decide (b<=512)&&decide (8<=n)&&decide (n<=128)&&decide (n%8=0)&&decide (2+n/8<b)
theorem J9 {b n:Int}:S4 b n=A5↔16<=b/\b<=512/\8<=n/\n<=128/\n%8=0/\2+n/8<b:=by
 unfold S4;simp [and_assoc]
theorem aD {b n:Int}:S4 b n=A6↔¬ (16<=b/\b<=512/\8<=n/\n<=128/\n%8=0/\2+n/8<b):=by
 rw [<-J9];simp
abbrev D8 (b n m:Int):List Cell:=[.i .i64 b,.i .i64 n,.i .u64 m]
theorem bY {b n m:Int} {h:B5}:A38 [.a (D8 b n m)] h=A4 (iV (bif S4 b n then 0 else 1),h):=by
 have key:∀ g,∃ g',A3G 0 [.a (D8 b n m)] g=A4 (iV (bif S4 b n then 0 else 1),g'):=by
  intro g;rw [B9J];have bad:S4 b n=A6->(A4 (iV 1,g++[rT (D8 b n m)]))=A4 (iV (bif S4 b n then 0 else 1),g++[rT (D8 b n m)]):=λh=>by rw [h];rfl
  by_cases c1:b<16
  ·rw [aD.2 (by omega)];exact ⟨_,by simp only [esc,esh,Nat.reduceAdd,Nat.reduceMul,Nat.reduceLT,c1,V7]<;>rfl⟩
  ·by_cases c2:512<b
   ·rw [aD.2 (by omega)];exact ⟨_,by simp only [esc,esh,Nat.reduceAdd,Nat.reduceMul,Nat.reduceLT,c1,c2,V7]<;>rfl⟩
   ·by_cases c3:n<8
    ·rw [aD.2 (by omega)];exact ⟨_,by simp only [esc,esh,Nat.reduceAdd,Nat.reduceMul,Nat.reduceLT,c1,c2,c3,V7,dK]<;>rfl⟩
    ·by_cases c4:128<n
     ·rw [aD.2 (by omega)];exact ⟨_,by simp only [esc,esh,Nat.reduceAdd,Nat.reduceMul,Nat.reduceLT,c1,c2,c3,c4,V7,dK]<;>rfl⟩
     ·have e1:=A8R (a:=n) (b:=8) (k:=.i64) (by omega) (by omega);by_cases c5:n%8=0
      ·have e2:=A0C (a:=n) (b:=8) (by omega) (by omega) (by omega);have e3:IntKind.wrap .i64 (2+n/8)=2+n/8:=wrap_i64 (by omega) (by omega);by_cases c6:b<=2+n/8
       ·rw [aD.2 (by omega)];exact ⟨_,by simp only [esc,esh,Nat.reduceAdd,Nat.reduceMul,Nat.reduceLT,c1,c2,c3,c4,e1,c5,e2,e3,c6,V7,dK]<;>rfl⟩
       ·rw [J9.2 (by omega)];exact ⟨_,by simp only [esc,esh,Nat.reduceAdd,Nat.reduceMul,Nat.reduceLT,c1,c2,c3,c4,e1,c5,e2,e3,c6,V7,dK]<;>rfl⟩
      ·rw [aD.2 (by omega)];exact ⟨_,by simp only [esc,esh,Nat.reduceAdd,Nat.reduceMul,Nat.reduceLT,c1,c2,c3,c4,e1,c5,V7,dK]<;>rfl⟩
 obtain ⟨g',e⟩:=key (ro h);exact B5y e (by simp)
theorem X3 {b n m:Int} {h:B5}:B42 [.a (D8 b n m)] h=A4 (bV (S4 b n),h):=by
 have key:∀ g,∃ g',B4w 0 [.a (D8 b n m)] g=A4 (bV (S4 b n),g'):=by
  intro g;rw [C9n];by_cases c1:16<=b
  ·by_cases c2:b<=512
   ·by_cases c3:8<=n
    ·by_cases c4:n<=128
     ·have e1:=A8R (a:=n) (b:=8) (k:=.i64) (by omega) (by omega);by_cases c5:n%8=0
      ·have e2:=A0C (a:=n) (b:=8) (by omega) (by omega) (by omega);have e3:IntKind.wrap .i64 (2+n/8)=2+n/8:=wrap_i64 (by omega) (by omega);by_cases c6:2+n/8<b
       ·rw [J9.2 (by omega)];exact ⟨_,by simp only [esc,esh,Nat.reduceAdd,Nat.reduceMul,Nat.reduceLT,c1,c2,c3,c4,e1,c5,e2,e3,c6]<;>rfl⟩
       ·rw [aD.2 (by omega)];exact ⟨_,by simp only [esc,esh,Nat.reduceAdd,Nat.reduceMul,Nat.reduceLT,c1,c2,c3,c4,e1,c5,e2,e3,c6]<;>rfl⟩
      ·rw [aD.2 (by omega)];exact ⟨_,by simp only [esc,esh,Nat.reduceAdd,Nat.reduceMul,Nat.reduceLT,c1,c2,c3,c4,e1,c5]<;>rfl⟩
     ·rw [aD.2 (by omega)];exact ⟨_,by simp only [esc,esh,Nat.reduceAdd,Nat.reduceMul,Nat.reduceLT,c1,c2,c3,c4]<;>rfl⟩
    ·rw [aD.2 (by omega)];exact ⟨_,by simp only [esc,esh,Nat.reduceAdd,Nat.reduceMul,Nat.reduceLT,c1,c2,c3]<;>rfl⟩
   ·rw [aD.2 (by omega)];exact ⟨_,by simp only [esc,esh,Nat.reduceAdd,Nat.reduceMul,Nat.reduceLT,c1,c2]<;>rfl⟩
  ·rw [aD.2 (by omega)];exact ⟨_,by simp only [esc,esh,Nat.reduceAdd,Nat.reduceMul,Nat.reduceLT,c1]<;>rfl⟩
 obtain ⟨g',e⟩:=key (ro h);exact C3Z e (by simp)
theorem lC {b n m:Int} {h:B5}:C0g [.a (D8 b n m)] h=A4 (bV (S4 b n),h):=by
 have key:∀ g,∃ g',B9t 0 [.a (D8 b n m)] g=A4 (bV (S4 b n),g'):=by
  intro g;rw [D2w];cases c:S4 b n with
  | true=>exact ⟨_,by simp only [esc,esh,Nat.reduceAdd,Nat.reduceMul,Nat.reduceLT,bY,c]<;>rfl⟩
  | false=>exact ⟨_,by simp only [esc,esh,Nat.reduceAdd,Nat.reduceMul,Nat.reduceLT,bY,c,Int.reduceEq]<;>rfl⟩
 obtain ⟨g',e⟩:=key (ro h);exact C6w e (by simp)
theorem pW {h:B5}:B5j [] h=A4 (iV 1,h) :=
 C4i (n:=0) (h2:=ro h) (by rw [C9A]) rfl
def sW (b n:Int):Int:=bif S4 b n then 2 else 0
def A1W (b n:Int):Int:=bif S4 b n then n/8 else 0
def kY (b n:Int):Int:=sW b n+A1W b n
theorem A4s {b n m:Int} {h:B5}:A6Z [.a (D8 b n m)] h=A4 (.t [.c (.i .i64 (sW b n)),.c (.i .i64 (A1W b n))],h):=by
 have key:∀ g,∃ g',A6s 0 [.a (D8 b n m)] g=A4 (.t [.c (.i .i64 (sW b n)),.c (.i .i64 (A1W b n))],g'):=by
  intro g;rw [C3A];unfold sW A1W;cases c:S4 b n with
  | true =>
   have c':=J9.1 c;have e2:=A0C (a:=n) (b:=8) (by omega) (by omega) (by omega);have e3:IntKind.wrap .i64 (1+1)=2:=wrap_i64 (by omega) (by omega);exact ⟨_,by simp only [esc,esh,Nat.reduceAdd,Nat.reduceMul,Nat.reduceLT,lC,c,pW,e2,e3]<;>rfl⟩
  | false=>exact ⟨_,by simp only [esc,esh,Nat.reduceAdd,Nat.reduceMul,Nat.reduceLT,lC,c]<;>rfl⟩
 obtain ⟨g',e⟩:=key (ro h);exact B7r e (by simp)
theorem A1D {b n:Int}:0<=kY b n/\kY b n<=18:=by
 unfold kY sW A1W;cases c:S4 b n with
 | true=>have:=J9.1 c;simp only [cond_true];omega
 | false=>simp only [cond_false];omega
theorem A0w {b n m:Int} {h:B5}:A2G [.a (D8 b n m)] h=A4 (iV (kY b n),h):=by
 have key:∀ g,∃ g',A9u 0 [.a (D8 b n m)] g=A4 (iV (kY b n),g'):=by
  intro g;rw [C5J];have hr:=A1D (b:=b) (n:=n);have e3:IntKind.wrap .i64 (sW b n+A1W b n)=kY b n:=wrap_i64 (by unfold kY at hr;omega) (by unfold kY at hr;omega);exact ⟨_,by simp only [esc,esh,Nat.reduceAdd,Nat.reduceMul,Nat.reduceLT,A4s,e3]<;>rfl⟩
 obtain ⟨g',e⟩:=key (ro h);exact C0e e (by simp)
def R6 (b n i:Int):Bool:=S4 b n&&decide (1<=i)&&decide (i<=n)
def jF (b n i:Int):Bool:=S4 b n&&decide (kY b n<=i)&&decide (i<b)
theorem A8y {b n m i:Int} {h:B5}:A1m [.a (D8 b n m),iV i] h=A4 (bV (R6 b n i),h):=by
 have key:∀ g,∃ g',A06 0 [.a (D8 b n m),iV i] g=A4 (bV (R6 b n i),g'):=by
  intro g;rw [B60];unfold R6;cases c:S4 b n with
  | true =>
   by_cases c1:1<=i
   ·exact ⟨_,by simp only [esc,esh,Nat.reduceAdd,Nat.reduceMul,Nat.reduceLT,lC,c,c1]<;>rfl⟩
   ·exact ⟨_,by simp only [esc,esh,Nat.reduceAdd,Nat.reduceMul,Nat.reduceLT,lC,c,c1]<;>rfl⟩
  | false=>exact ⟨_,by simp only [esc,esh,Nat.reduceAdd,Nat.reduceMul,Nat.reduceLT,lC,c]<;>rfl⟩
 obtain ⟨g',e⟩:=key (ro h);exact B2Y e (by simp)
theorem C3d {b n m i:Int} {h:B5}:B9Y [.a (D8 b n m),iV i] h=A4 (bV (R6 b n i),h):=by
 have key:∀ g,∃ g',B9n 0 [.a (D8 b n m),iV i] g=A4 (bV (R6 b n i),g'):=by
  intro g;rw [D2q];unfold R6;cases c:S4 b n with
  | true =>
   by_cases c1:1<=i
   ·exact ⟨_,by simp only [esc,esh,Nat.reduceAdd,Nat.reduceMul,Nat.reduceLT,X3,c,c1]<;>rfl⟩
   ·exact ⟨_,by simp only [esc,esh,Nat.reduceAdd,Nat.reduceMul,Nat.reduceLT,X3,c,c1]<;>rfl⟩
  | false=>exact ⟨_,by simp only [esc,esh,Nat.reduceAdd,Nat.reduceMul,Nat.reduceLT,X3,c]<;>rfl⟩
 obtain ⟨g',e⟩:=key (ro h);exact C6f e (by simp)
theorem C7O {b n m i:Int} {h:B5}:A3U [.a (D8 b n m),iV i] h=A4 (bV (jF b n i),h):=by
 have key:∀ g,∃ g',A3v 0 [.a (D8 b n m),iV i] g=A4 (bV (jF b n i),g'):=by
  intro g;rw [B9s];unfold jF;cases c:S4 b n with
  | true =>
   by_cases c1:kY b n<=i
   ·exact ⟨_,by simp only [esc,esh,Nat.reduceAdd,Nat.reduceMul,Nat.reduceLT,lC,A0w,c,c1]<;>rfl⟩
   ·exact ⟨_,by simp only [esc,esh,Nat.reduceAdd,Nat.reduceMul,Nat.reduceLT,lC,A0w,c,c1]<;>rfl⟩
  | false=>exact ⟨_,by simp only [esc,esh,Nat.reduceAdd,Nat.reduceMul,Nat.reduceLT,lC,c]<;>rfl⟩
 obtain ⟨g',e⟩:=key (ro h);exact B5i e (by simp)
def W3 (b n i:Int):Int:=bif R6 b n i then 2+(i-1)/8 else 0
def cO (b n i:Int):Int:=bif R6 b n i then (i-1)%8 else 0
theorem lQ {b n i:Int}:R6 b n i=A5↔S4 b n=A5/\1<=i/\i<=n:=by
 unfold R6;simp [and_assoc]
theorem D5b {b n i:Int}:jF b n i=A5↔S4 b n=A5/\kY b n<=i/\i<b:=by
 unfold jF;simp [and_assoc]
theorem A4t {b n m i:Int} {h:B5}:A60 [.a (D8 b n m),iV i] h=A4 (.t [.c (.i .i64 (W3 b n i)),.c (.i .i64 (cO b n i)),.c (.b (R6 b n i))],h):=by
 have key:∀ g,∃ g',A6t 0 [.a (D8 b n m),iV i] g=A4 (.t [.c (.i .i64 (W3 b n i)),.c (.i .i64 (cO b n i)),.c (.b (R6 b n i))],g'):=by
  intro g;rw [C3B];unfold W3 cO;cases c:R6 b n i with
  | true =>
   obtain ⟨c1,c2,c3⟩:=lQ.1 c;have c':=J9.1 c1;have e0:sW b n=2:=by unfold sW;rw [c1];rfl
   have e1:IntKind.wrap .i64 (i-1)=i-1:=wrap_i64 (by omega) (by omega);have e2:=A0C (a:=i-1) (b:=8) (by omega) (by omega) (by omega);have e3:IntKind.wrap .i64 (2+(i-1)/8)=2+(i-1)/8:=wrap_i64 (by omega) (by omega);have e4:=A8R (a:=i-1) (b:=8) (k:=.i64) (by omega) (by omega);exact ⟨_,by simp only [esc,esh,Nat.reduceAdd,Nat.reduceMul,Nat.reduceLT,A8y,c,A4s,e0,e1,e2,e3,e4]<;>rfl⟩
  | false=>exact ⟨_,by simp only [esc,esh,Nat.reduceAdd,Nat.reduceMul,Nat.reduceLT,A8y,c]<;>rfl⟩
 obtain ⟨g',e⟩:=key (ro h);exact B7s e (by simp)
theorem D9j {b n:Int}:0<=sW b n/\sW b n<=2/\0<=A1W b n/\A1W b n<=16:=by
 unfold sW A1W;cases c:S4 b n with
 | true=>have:=J9.1 c;simp only [cond_true];omega
 | false=>simp only [cond_false];omega
def upto (d:Nat):List Int:=(E7C d).map λ(i:Nat)=>(i:Int)
theorem upto_length {d:Nat}:(upto d).length=d:=by simp [upto]
theorem upto_succ {d:Nat}:upto (d+1)=upto d++[(d:Int)]:=by simp [upto,List.range_succ]
theorem B34 {g:B5} {D k:Nat} (hD:D<=18):∀ d i m h id,i+d=D->d<m->Low g.length g h->g.length<=id->rd h id=rT (encI (upto i)) ->
  ∃ v' h',C2Z k m (sV id 0 i 1) (iV D) (iV i) h=A4 (v',h')/\Out g.length h' v' 1 D (encI (upto D))
 | d,i,0,h,id,_,hm,_,_,_=>by omega
 | 0,i,m+1,h,id,hi,hm,hlow,hb,hr=>by
  have e:i=D:=by omega
  subst e;have h1':¬ (i:Int)<i:=by omega
  rw [B1y];exact ⟨_,_,by simp only [esc,h1']<;>rfl,by rw [B7,upto_length];omega,id,rfl,hb,hr⟩
 | d+1,i,m+1,h,id,hi,hm,hlow,hb,hr=>by
  obtain ⟨h',a1,a2,a3,a4,a5⟩:=push (ys:=[.i .i64 (i:Int)]) (sz:=1) (n:=i) hlow hr (by rw [B7,upto_length];omega) hb rfl (by omega) (by omega);have e4:encI (upto i)++[Cell.i .i64 (i:Int)]=encI (upto (i+1)):=by rw [upto_succ,A2Y];rfl
  rw [e4] at a2;obtain ⟨v',h'',b1,b2⟩:=B34 (k:=k) hD d (i+1) m h' (h.length+1) (by omega) (by omega) a3 a4 a2;have h1':(i:Int)<D:=by omega
  have e5:E4 [o0] [(0,1,iV (i:Int))]=A4 [.i .i64 (i:Int)]:=rfl;rw [B1y];exact ⟨v',h'',by simp only [esc,h1',e5,a1,D3 (show i+1<9223372036854775808 by omega)];exact b1,b2⟩
theorem C2Y {b n m:Int} {h:B5}:B5k [.a (D8 b n m)] h=A4 (sV h.length 0 (kY b n).toNat 1,h++[rT (encI (upto (kY b n).toNat))]):=by
 have hr:=A1D (b:=b) (n:=n);obtain ⟨v',h',e,ho⟩:=B34 (g:=ro h) (D:=(kY b n).toNat) (k:=(kY b n).toNat+1) (by omega) (kY b n).toNat 0 ((kY b n).toNat+1) (ro h++[rT (D8 b n m),rT [],rT []]) ((ro h).length+2) (by omega) (by omega) ((Low.refl (E7b _)).new _) (by omega) (by simp;rfl);refine C6v (n:=(kY b n).toNat+1) (v:=v') (h2:=h') ?_ (by simpa [F7] using ho) (by simp);rw [C9B];rw [show (((kY b n).toNat:Nat):Int)=kY b n by omega] at e;simp only [esc,esh,Nat.reduceAdd,Nat.reduceMul,Nat.reduceLT,A0w];exact e
theorem A5U {h:B5} {I k:Nat} (hI:1<=I) (hI2:I<=128):∀ d i m:Nat,i+d=I->d<m->1<=i ->
  B3U k m (iV I) (iV ((2+(i-1)/8:Nat):Int)) (iV (((i-1)%8:Nat):Int)) (iV i) h=A4 (.t [.c (.i .i64 ((2+(I-1)/8:Nat):Int)),.c (.i .i64 (((I-1)%8:Nat):Int)),.c (.b A5)],h)
 | d,i,0,_,hm,_=>by omega
 | 0,i,m+1,hi,hm,h1=>by
  have e:i=I:=by omega
  subst e;have c0:¬ (i:Int)<i:=by omega
  rw [A5s];simp only [esc,c0]
 | d+1,i,m+1,hi,hm,h1=>by
  have ih:=A5U (h:=h) (k:=k) hI hI2 d (i+1) m (by omega) (by omega) (by omega);have c0:(i:Int)<I:=by omega
  rw [A5s];by_cases c1:(i-1)%8+1=8
  ·have c1':(((i-1)%8+1:Nat):Int)=8:=by omega
   have e1:2+(i+1-1)/8=2+(i-1)/8+1:=by omega
   have e2:(i+1-1)%8=0:=by omega
   rw [e1,e2] at ih;simp only [esc,c0,D3 (show (i-1)%8+1<9223372036854775808 by omega),c1',D3 (show 2+(i-1)/8+1<9223372036854775808 by omega),A5r,D3 (show i+1<9223372036854775808 by omega)];exact ih
  ·have c1':¬ (((i-1)%8+1:Nat):Int)=8:=by omega
   have e1:2+(i+1-1)/8=2+(i-1)/8:=by omega
   have e2:(i+1-1)%8=(i-1)%8+1:=by omega
   rw [e1,e2] at ih;simp only [esc,c0,D3 (show (i-1)%8+1<9223372036854775808 by omega),c1',A5r,D3 (show i+1<9223372036854775808 by omega)];exact ih
theorem C8N {b n m i:Int} {h:B5}:A6P [.a (D8 b n m),iV i] h=A4 (.t [.c (.i .i64 (W3 b n i)),.c (.i .i64 (cO b n i)),.c (.b (R6 b n i))],h):=by
 have key:∀ g,∃ g',A6n (i.toNat+1) [.a (D8 b n m),iV i] g=A4 (.t [.c (.i .i64 (W3 b n i)),.c (.i .i64 (cO b n i)),.c (.b (R6 b n i))],g'):=by
  intro g;rw [C3s];unfold W3 cO;cases c:R6 b n i with
  | true =>
   obtain ⟨c1,c2,c3⟩:=lQ.1 c;have c':=J9.1 c1;have:=A5U (h:=g++[rT (D8 b n m)]) (I:=i.toNat) (k:=i.toNat+1) (by omega) (by omega) (i.toNat-1) 1 (i.toNat+1) (by omega) (by omega) (by omega);rw [show ((i.toNat:Nat):Int)=i by omega,show ((2+(1-1)/8:Nat):Int)=2 from rfl,show (((1-1)%8:Nat):Int)=0 from rfl,show ((1:Nat):Int)=1 from rfl,show ((2+(i.toNat-1)/8:Nat):Int)=2+(i-1)/8 by omega,show (((i.toNat-1)%8:Nat):Int)=(i-1)%8 by omega] at this;exact ⟨_,by simp only [esc,esh,Nat.reduceAdd,Nat.reduceMul,Nat.reduceLT,C3d,c];exact this⟩
  | false=>exact ⟨_,by simp only [esc,esh,Nat.reduceAdd,Nat.reduceMul,Nat.reduceLT,C3d,c]<;>rfl⟩
 obtain ⟨g',e⟩:=key (ro h);exact B7k e (by simp)
def tK (b n no:Int):Int:=if S4 b n=A5/\0<=no/\no<b then (if no<2 then no+1 else if (no-2)*8<n then 3 else 4) else 0
theorem A4B {b n m no:Int} {h:B5}:A97 [.a (D8 b n m),iV no] h=A4 (iV (tK b n no),h):=by
 have key:∀ g,∃ g',A9o 0 [.a (D8 b n m),iV no] g=A4 (iV (tK b n no),g'):=by
  intro g;rw [C5y];unfold tK;cases c:S4 b n with
  | true =>
   have c':=J9.1 c;by_cases c1:no<0
   ·rw [if_neg (by omega)];exact ⟨_,by simp only [esc,esh,Nat.reduceAdd,Nat.reduceMul,Nat.reduceLT,X3,c,c1]<;>rfl⟩
   ·by_cases c2:b<=no
    ·rw [if_neg (by omega)];exact ⟨_,by simp only [esc,esh,Nat.reduceAdd,Nat.reduceMul,Nat.reduceLT,X3,c,c1,c2]<;>rfl⟩
    ·rw [if_pos ⟨rfl,by omega,by omega⟩];by_cases c3:no<2
     ·rw [if_pos c3];have e1:IntKind.wrap .i64 (no+1)=no+1:=wrap_i64 (by omega) (by omega);exact ⟨_,by simp only [esc,esh,Nat.reduceAdd,Nat.reduceMul,Nat.reduceLT,X3,c,c1,c2,c3,e1]<;>rfl⟩
     ·rw [if_neg c3];have e1:IntKind.wrap .i64 (no-2)=no-2:=wrap_i64 (by omega) (by omega);have e2:IntKind.wrap .i64 ((no-2)*8)=(no-2)*8:=wrap_i64 (by omega) (by omega);by_cases c4:(no-2)*8<n
      ·rw [if_pos c4];exact ⟨_,by simp only [esc,esh,Nat.reduceAdd,Nat.reduceMul,Nat.reduceLT,X3,c,c1,c2,c3,e1,e2,c4]<;>rfl⟩
      ·rw [if_neg c4];exact ⟨_,by simp only [esc,esh,Nat.reduceAdd,Nat.reduceMul,Nat.reduceLT,X3,c,c1,c2,c3,e1,e2,c4]<;>rfl⟩
  | false =>
   rw [if_neg (by simp)];exact ⟨_,by simp only [esc,esh,Nat.reduceAdd,Nat.reduceMul,Nat.reduceLT,X3,c]<;>rfl⟩
 obtain ⟨g',e⟩:=key (ro h);exact B9X e (by simp)
theorem B2d (v:Int):0<=IntKind.wrap .u64 v/\IntKind.wrap .u64 v<18446744073709551616:=by
 have hw:IntKind.wrap .u64 v=v%18446744073709551616:=by
  simp only [IntKind.wrap,IntKind.bits,IntKind.signed,E7f];rfl
 rw [hw];exact ⟨Int.emod_nonneg _ (by omega),Int.emod_lt_of_pos _ (by omega)⟩
theorem dP {w:Nat} {v:Int} {h:B5} (hw:w<=8):A0k [iV w,.c (.i .u64 (IntKind.wrap .u64 v))] h=A4 (sV h.length 0 w 1,h++[rT (B4 (B9 w v))]):=by
 rw [A1Q hw (B2d v).1 (B2d v).2,D4y hw]
theorem D4h {h:B5} {id off len sz:Nat} {cs:List Cell} (hr:rd h id=rT cs) (hn:0<len):zN h (sV id off len sz)=A4 (sV id off len sz):=by
 simp [zN,hr,hn]
def magicB:List UInt8:=[101,115,99,104,101,97,116,49]
def cM (b n m:Int):List UInt8:=magicB++B9 2 b++B9 2 n++B9 8 m
def jH (b n m:Int):List UInt8:=O7 256 (cM b n m++B9 4 (zF (cM b n m):Nat))
theorem S8 {b n m:Int}:(cM b n m).length=20:=by simp [cM,magicB]
theorem U4 {b n m:Int}:(jH b n m).length=256:=I1 (by rw [E7a,S8,Q5];omega)
theorem E0G {l xs:List UInt8} {a:Nat} (h1:l.length<=a) (h2:a+xs.length<=256) (h3:a<256):A86 (O7 256 l) a xs=O7 256 (l++zeros (a-l.length)++xs):=by
 unfold A86;rw [if_pos (by omega)];simp only [E7r];rw [E7i (by omega),B1W h1 h2]
theorem B89 {b n m:Int} {h:B5} (hm0:0<=m) (hm1:m<18446744073709551616) :
  B0B [.a (D8 b n m)] h=A4 (.t [.a (B4 (bif S4 b n then jH b n m else zeros 256)),.c (.i .i64 (bif S4 b n then 0 else 1))],h):=by
 have key:∀ g,∃ g',A9H 0 [.a (D8 b n m)] g=A4 (.t [.a (B4 (bif S4 b n then jH b n m else zeros 256)),.c (.i .i64 (bif S4 b n then 0 else 1))],g'):=by
  intro g;have hz:(B4 (zeros 256)).length=256:=by rw [A9];exact zeros_length
  have haf:E4 (E68 256 (Cell.i .u8 0)) []=A4 (E68 256 (Cell.i .u8 0)):=rfl;rw [I7] at haf;rw [C5Z,I7];cases c:S4 b n with
  | false =>
   simp only [cond_false];generalize zeros 256=z at *;exact ⟨_,by simp only [esc,esh,Nat.reduceAdd,Nat.reduceMul,Nat.reduceLT,bY,c,haf,hz,Int.reduceEq]<;>rfl⟩
  | true =>
   simp only [cond_true];have e7:E4 [Cell.i .u8 0,.i .u8 0,.i .u8 0,.i .u8 0,.i .u8 0,.i .u8 0,.i .u8 0,.i .u8 0] [(0,1,.c (.i .u8 101)),(1,1,.c (.i .u8 115)),(2,1,.c (.i .u8 99)),(3,1,.c (.i .u8 104)),(4,1,.c (.i .u8 101)),(5,1,.c (.i .u8 97)),(6,1,.c (.i .u8 116)),(7,1,.c (.i .u8 49))]=A4 (B4 magicB):=rfl;have hmk:=D4h (h:=g++[rT (D8 b n m),rT (B4 (zeros 256)),rT (B4 magicB)]) (id:=g.length+2) (off:=0) (len:=8) (sz:=1) (cs:=B4 magicB) (by simp) (by omega);have ho:=B2E (h:=g++[rT (D8 b n m),rT (B4 (zeros 256)),rT (B4 magicB)]) (v:=sV (g.length+2) 0 8 1) (nv:=8) (data:=magicB) (Has.tr (by simp) (by simp [A9,magicB]) (F9 _)) (by decide);rw [C8v (by decide)] at ho;have lm:magicB.length=8:=rfl;have w1:=λh=>Y6 (h:=h) (l:=O7 256 magicB) (I1 (by decide)) (a:=8) (w:=2) (v:=b)
   have e1:=iY (l:=magicB) (a:=8) (w:=2) (v:=b) (by decide) (by omega) (by omega) (by omega);simp only [lm,E7R,show zeros 0=[] from rfl,E7w,E7F] at e1;simp only [e1] at w1;have l1:(magicB++B9 2 b).length=10:=by simp [lm]
   have w2:=λh=>Y6 (h:=h) (l:=O7 256 (magicB++B9 2 b)) (I1 (by omega)) (a:=10) (w:=2) (v:=n)
   have e2:=iY (l:=magicB++B9 2 b) (a:=10) (w:=2) (v:=n) (by omega) (by omega) (by omega) (by omega);simp only [l1,E7R,show zeros 0=[] from rfl,E7w,E7F] at e2;simp only [e2] at w2;have l2:(magicB++B9 2 b++B9 2 n).length=12:=by simp [lm]
   have L0:(B4 (O7 256 magicB)).length=256:=by rw [A9,I1 (by decide)]
   have L1:(B4 (O7 256 (magicB++B9 2 b))).length=256:=by rw [A9,I1 (by omega)]
   have L2:(B4 (O7 256 (magicB++B9 2 b++B9 2 n))).length=256:=by rw [A9,I1 (by omega)]
   have L3:(B4 (O7 256 (cM b n m))).length=256:=by rw [A9,I1 (by rw [S8];omega)]
   have L4:(B4 (jH b n m)).length=256:=by rw [A9,U4]
   have mk8:A13 (iV 8) (iV 8)=A4 8:=rfl;have hp:=D6H (h:=g++[rT (D8 b n m),rT (B4 (zeros 256)),rT (B4 magicB),rT (B4 (O7 256 (magicB++B9 2 b++B9 2 n))),rT (B4 (zeros 8))]) (x:=sV (g.length+4) 0 8 1) (nv:=8) (l:=zeros 8) (a:=0) (w:=8) (v:=m) (Has.tr (by simp) (by simp [A9]) (F9 _)) (by simp);have ep:B8X (zeros 8) 0 8 m=A4 (B9 8 m):=by
    unfold B8X;rw [if_pos ⟨by omega,by decide⟩];unfold J1;simp [zeros]
   rw [ep] at hp;simp only [E7N,E7o,Q5] at hp;have hl:=B58 (h:=g++[rT (D8 b n m),rT (B4 (zeros 256)),rT (B4 magicB),rT (B4 (O7 256 (magicB++B9 2 b++B9 2 n))),rT (B4 (zeros 8)),rT (B4 (B9 8 m))]) (v:=sV (g.length+5) 0 8 1) (nv:=8) (data:=B9 8 m) (l:=O7 256 (magicB++B9 2 b++B9 2 n)) (a:=12) (Has.tr (by simp) (by simp [A9]) (F9 _)) (I1 (by omega)) (by simp);have e3:=E0G (l:=magicB++B9 2 b++B9 2 n) (xs:=B9 8 m) (a:=12) (by omega) (by simp) (by omega);simp only [l2,E7R,show zeros 0=[] from rfl,E7w,E7F] at e3;rw [e3] at hl;have hc:=λh=>B57 (h:=h) (l:=O7 256 (cM b n m)) (I1 (by rw [S8];omega)) (a:=0) (n:=20)
   have e4:cJ (O7 256 (cM b n m)) 0 20=cM b n m:=by
    unfold cJ O7;rw [if_pos (by omega)];simp only [Int.toNat_zero,E7p];exact List.take_left' S8
   simp only [e4,S8] at hc;have E38:=(Has.tr (h:=g++[rT (D8 b n m),rT (B4 (zeros 256)),rT (B4 magicB),rT (B4 (O7 256 (cM b n m))),rT (B4 (zeros 8)),rT (B4 (B9 8 m)),rT (B4 (cM b n m))]) (id:=g.length+6) (sz:=1) (n:=20) (cs:=B4 (cM b n m)) (by simp) (by rw [A9,S8]) (F9 _)).str;have hmx:=λh=>D1R (s:=cM b n m) (h:=h) (by rw [S8];omega)
   have E6j:=C4O (s:=cM b n m);have e5:IntKind.wrap .i64 ((zF (cM b n m):Nat):Int)=(zF (cM b n m):Nat):=wrap_i64 (by omega) (by omega);have w3:=λh=>Y6 (h:=h) (l:=O7 256 (cM b n m)) (I1 (by rw [S8];omega)) (a:=20) (w:=4) (v:=(zF (cM b n m):Nat))
   have e6:=iY (l:=cM b n m) (a:=20) (w:=4) (v:=(zF (cM b n m):Nat)) (by rw [S8];omega) (by omega) (by omega) (by omega);simp only [S8,E7R,show zeros 0=[] from rfl,E7w,E7F] at e6;simp only [e6] at w3;have eS:magicB++B9 2 b++B9 2 n++B9 8 m=cM b n m:=rfl;rw [eS] at hl;have rz:=nK 8;change ∀ h,A7a [_,_,_,_] h=A4 (.a (B4 (jH b n m)),h) at w3;generalize jH b n m=SB at *;generalize O7 256 magicB=P0 at *;generalize O7 256 (magicB++B9 2 b)=P1 at *;generalize O7 256 (magicB++B9 2 b++B9 2 n)=P2 at *;generalize O7 256 (cM b n m)=P3 at *;simp only [esc] at hp;generalize zeros 256=z at *;generalize zeros 8=z8 at *;exact ⟨_,by simp only [esc,esh,Nat.reduceAdd,Nat.reduceMul,Nat.reduceLT,bY,c,e7,hmk,ho,hz,L0,w1,L1,w2,L2,mk8,rz,hp,hl,L3,hc,E38,hmx,e5,w3,L4]<;>rfl⟩
 obtain ⟨g',e⟩:=key (ro h);exact C0G e (by simp)
theorem B7U {b:List UInt8} {a w:Nat} (hb:b.length=256) (h1:a+w<=256) (hw:1<=w) (hw4:w<=4):((atN b a w:Nat):Int)=fieldN b a w:=by
 unfold atN fieldN;rw [if_pos ⟨by omega,O0.2 (by omega)⟩];simp only [E7r]
theorem E0l {b:List UInt8} (hb:b.length=256):C7Q (cJ b 12 8) 0 8=A4 (le ((b.drop 12).take 8)):=by
 have hc:cJ b 12 8=(b.drop 12).take 8:=by
  unfold cJ;rw [if_pos (by omega)];rfl
 have hl:((b.drop 12).take 8).length=8:=by simp;omega
 unfold C7Q;rw [hc,hl,if_pos ⟨by omega,by decide⟩];simp only [Int.toNat_zero,E7p];rw [E7i (by rw [hl];decide)]
def okS (b:List UInt8):Bool:=S4 (fieldN b 8 2) (fieldN b 10 2)&&decide (jH (fieldN b 8 2) (fieldN b 10 2) (fieldN b 12 8)=b)
def C1b (b:List UInt8):List Cell:=bif okS b then D8 (fieldN b 8 2) (fieldN b 10 2) (fieldN b 12 8) else D8 0 0 0
theorem A0u (b:List UInt8):0<=fieldN b 12 8/\fieldN b 12 8<18446744073709551616:=by
 unfold fieldN;have h1:=C23 ((b.drop 12).take 8);have h2:((b.drop 12).take 8).length<=8:=by simp;omega
 have h3:=vN h2;have h4:(256:Nat) ^ 8=18446744073709551616:=by decide
 omega
theorem A7U {b:List UInt8} {h:B5} (hb:b.length=256):B0z [.a (B4 b)] h=A4 (.t [.a (C1b b),.c (.i .i64 (bif okS b then 0 else 13))],h):=by
 have key:∀ g,∃ g',A9G 0 [.a (B4 b)] g=A4 (.t [.a (C1b b),.c (.i .i64 (bif okS b then 0 else 13))],g'):=by
  intro g;have hl:(B4 b).length=256:=by rw [A9,hb]
  have hc:=B57 (h:=g++[rT (B4 b),rT (D8 0 0 0)]) hb (a:=12) (n:=8);have xY:(cJ b 12 8).length=8:=by unfold cJ;rw [if_pos (by omega)];simp;omega
  rw [xY] at hc;have hg:=D6G (h:=g++[rT (B4 b),rT (D8 0 0 0),rT (B4 (cJ b 12 8))]) (v:=sV (g.length+2) 0 8 1) (nv:=8) (l:=cJ b 12 8) (Has.tr (by simp) (by rw [A9,xY]) (F9 _)) (a:=0) (w:=8) (by rw [xY];omega);rw [E0l hb] at hg;simp only [E7N,E7o] at hg;have a1:=λh=>nG (h:=h) hb (a:=8) (w:=2)
  have a2:=λh=>nG (h:=h) hb (a:=10) (w:=2)
  have f1:=B7U (a:=8) (w:=2) hb (by omega) (by omega) (by omega);have f2:=B7U (a:=10) (w:=2) hb (by omega) (by omega) (by omega);simp only [E7F] at f1 f2;simp only [f1] at a1;simp only [f2] at a2;have e12:((le ((b.drop 12).take 8):Nat):Int)=fieldN b 12 8:=rfl;rw [e12] at hg;have ef:∀ x y z:Int,E4 (D8 0 0 0) [(0,1,iV x),(1,1,iV y),(2,1,.c (.i .u64 z))]=A4 (D8 x y z):=λ_ _ _=>rfl
  have ef0:E4 (D8 0 0 0) []=A4 (D8 0 0 0):=rfl;have hp:=λh=>B89 (b:=fieldN b 8 2) (n:=fieldN b 10 2) (m:=fieldN b 12 8) (h:=h) (A0u b).1 (A0u b).2
  have hz:(E68 256 (Cell.i .u8 0)).length=256:=E7B;have hS:(B4 (jH (fieldN b 8 2) (fieldN b 10 2) (fieldN b 12 8))).length=256:=by rw [A9,U4]
  have hZ:(B4 (zeros 256)).length=256:=by rw [A9];exact zeros_length
  have hq:=D4c (l:=jH (fieldN b 8 2) (fieldN b 10 2) (fieldN b 12 8)) (m:=b) (n:=256) U4 hb;simp only [esc] at hc;rw [C5Y];unfold C1b okS;generalize E68 256 (Cell.i .u8 0)=z at *;cases c:S4 (fieldN b 8 2) (fieldN b 10 2) with
  | false =>
   simp only [c,cond_false] at hp;generalize zeros 256=zz at *;exact ⟨_,by simp only [esc,esh,Nat.reduceAdd,Nat.reduceMul,Nat.reduceLT,hl,hc,hg,a1,a2,ef,ef0,hp,hz,hZ,E7f,Int.reduceEq]<;>rfl⟩
  | true =>
   simp only [c,cond_true] at hp;cases c2:decide (jH (fieldN b 8 2) (fieldN b 10 2) (fieldN b 12 8)=b) with
   | false =>
    rw [c2] at hq;exact ⟨_,by simp only [esc,esh,Nat.reduceAdd,Nat.reduceMul,Nat.reduceLT,hl,hc,hg,a1,a2,ef,ef0,hp,hz,hS,hq,E75]<;>rfl⟩
   | true =>
    rw [c2] at hq;exact ⟨_,by simp only [esc,esh,Nat.reduceAdd,Nat.reduceMul,Nat.reduceLT,hl,hc,hg,a1,a2,ef,ef0,hp,hz,hS,hq,Bool.and_true]<;>rfl⟩
 obtain ⟨g',e⟩:=key (ro h);refine C0F e ?_;unfold C1b;cases okS b<;>simp
noncomputable section
variable (n m m2:Nat) (a0 a1 a2 x2 x3 x6 x7 x8:Val) (h:B5)
def vT:FD A8:=⟨px 0X11b01880682161f1b7c64c8496187c004961a7c01b119432320170301213432322461b1e2a828889641e7f01e3601617c0061a02201370301213012,[.c (.i .u8 0),.c (.b A6),.c (.b A5),.c (.i .u8 1)],[],[.tmp 2,.tmp 3,.tmp 4],[]⟩
def B3s:=vT.R
def A4O:=mR B3s vT (tT []) n [a0] h
def B3a:=vT.K Tryz.func191
def wJ:=vT.S
theorem A4V:SOk A8 191 wJ:=B3a.sok
theorem A1d:F6 B3s wJ:=B3a.flat
def mI:FD A8:=⟨px 0X12384881de1c48849392612621fa2e1c148828c61a287c5e061c67a148828c4e281718621fa2e1c148828c61a1d7c48061c61c148828c3c3b1718241d8391183a123918763520241c82e162bc7a2f132e187632620563201a7c07806c7122e6812a6801e1d69681a16101ac41b11919187632621c62d9032ed2632142,[],[],[.cellN 6 256],[cal A4V]⟩
def A6j:=mI.R
def C96:AtH:=mI.lj 0 n [] [x3,x6]
def B7I:=tT [⟨1,2,C96⟩]
def C3l:=mR A6j mI B7I n [a0,a1,a2] h
def C0W:=mJ mI B7I 0 n [] [x3,x6] h
def B6r:=mI.K Tryz.func122
def A6E:=mI.S
theorem C3M:SOk A8 122 A6E:=B6r.sok
theorem B7e:F6 A6j A6E:=B6r.flat
def mH:FD A8:=⟨px 0X127a4881de6e488283922127c18153e07c21825e4881de361a301ac4a04e4881c394185c5161c1a2a11983187653262151876325307024187632531a617c11918763262187632506051061c806131876325232231c2d81320321c22d912022,[.c (.b A5)],[],[.cellN 2 256],[cal C3M]⟩
def A6i:=mH.R
def B3L:AtH:=mH.lj 0 n [m] [x2,x3,x6,x7,x8]
def B7H:=tT [⟨2,5,B3L⟩]
def C3k:=mR A6i mH B7H n [a0] h
def A5e:=mL mH B7H 0 n [m] [x2,x3,x6,x7,x8] h
def B6q:=mH.K Tryz.func57
def A6D:=mH.S
theorem A78:SOk A8 57 A6D:=B6q.sok
theorem B7d:F6 A6i A6D:=B6q.flat
def A17:FD A8:=⟨px 0X11b841363e2a87633f7f61a1e3f7f6e3f363f1f67e14883f28f5e3f3603e1e11a4126c06805c5122e6812a6801e1b69581816101ac419119765242341022ed22122,[.c (.b A6),.c (.i .u8 0)],[],[.tmp 4],[cal A4V]⟩
def A9i:=A17.R
def C5m:=mR A9i A17 (tT []) n [a0,a1] h
def C1r:=A17.K Tryz.func126
def A9P:=A17.S
theorem C55:SOk A8 126 A9P:=C1r.sok
theorem B9N:F6 A9i A9P:=C1r.flat
end
noncomputable section
variable (n m m2:Nat) (a0 x1 x2 x3 x4 x6 x7 x8 x17 x33 x34 x44 x45:Val) (h:B5)
def wA:FD A8:=⟨px 0X14821361e2a87ffffd6191b7f01b3601647c0072123211012,[.c (.b A6)],[],[.tmp 2],[]⟩
def B3u:=wA.R
def B9B:=mR B3u wA (tT []) n [a0] h
def B3m:=wA.K Tryz.func247
def A32:=wA.S
theorem C0r:SOk A8 247 A32:=B3m.sok
theorem B5t:F6 B3u A32:=B3m.flat
def cQ:FD A8:=⟨px 0X121871de1c7382212621fa397e1728c61c1a4284d432227c18153e07c218621fa1a5e1728c4a04a1c14185c058411e2a64981a0418754321721518732153070241873215339617c11918732162187321506051066384464d31873215232133392d8132132392d862ec22122,[],[],[.cellN 2 7],[]⟩
def yQ:=cQ.R
def A5G:AtH:=cQ.lj 0 n [m] [x1,x2,x3,x7,x8]
def A8i:=tT [⟨2,5,A5G⟩]
def B4K:=mR yQ cQ A8i n [a0] h
def zS:=mL cQ A8i 0 n [m] [x1,x2,x3,x7,x8] h
def A73:=cQ.K Tryz.func125
def oN:=cQ.S
theorem oU:SOk A8 125 oN:=A73.sok
theorem B0p:F6 yQ oN:=A73.flat
def iW:FD A8:=⟨px 0X1121121239c5d153a06b7d2180152112122462bc6101ac2868136a5d5c322fc411a1e749825d5c432155d5c23070245d5c233d617c15e5d5c325d5c20605106111ac41b5b3935d5c220301521121224632a2a849c8896519c7f619c1f2419c4f60632a2a816118a7f618a1f2418a4f60632e2a866e2bf6106e1af66e1f346e4f6062bc6101ac61c142f4d2c5a12211301521121224634e2a8762a3a2ab04b68b03b4b3eb41b4b3b63a31623a7f63a1f043a4f60632a2a81965287f6281f04284f601617c61c0454d2a2e1221131062ec2112,[.c (.b A5),.c (.b A6)],[.eqA A5 ([.i .i64,.i .i64,.i .i64,.i .i64,.i .i64,.i .i64,.i .i64,.i .i64,.i .i64,.i .i64,.i .i64]) (.t 18) (.t 19)],[.tmp 2],[cal C0r,cal oU]⟩
def A3B:=iW.R
def B1I:AtH:=iW.lj 0 n [m] [x44,x45]
def B3G:=tT [⟨2,2,B1I⟩]
def B9z:=mR A3B iW B3G n [a0] h
def A27:=mL iW B3G 0 n [m] [x44,x45] h
def B3k:=iW.K Tryz.func230
def A30:=iW.S
theorem C0n:SOk A8 230 A30:=B3k.sok
theorem B5r:F6 A3B A30:=B3k.flat
def gA:FD A8:=⟨px 0X1131218481de28486e39332223ac5d154a07c218621fa2a2814828c61c638148828c4c04c6816182fc1911a025d1964252355d64243270245d64243289617c15e5d642525d6424162515d115d6424242232e84a155a07c2182384881de6191a2e411ac48065907c61967c3c0384884e397182ac02a8711e2a74981a044a4918764272154a4964253070244a49642533d617c14b4a49642624a4964250605106121ac41b3834a4964252642332384881de619491e411ac61c344c384883856421422384881de629291e411ac61c244c384883856421422384881de619191e411ac61c144c7a48838564214226e4881de6511e411ac61c044c5a488283956421421c62d91642142017c3166e481de5a05a483843222241637c3e1c121d5421525c516101ac41b1a393542142421331d2d8142132101d2d862ec32122,[],[],[.cellN 2 32,.tmp 3],[cal C0n,cal wM,cal oU]⟩
def A9A:=gA.R
def B8v:AtH:=gA.lj 0 n [m] [x2,x4,x6,x33,x34]
def B8w:AtH:=gA.lj 1 n [m] [x2,x4,x6,x45]
def B0O:=tT [⟨2,5,B8v⟩,⟨2,4,B8w⟩]
def C5Q:=mR A9A gA B0O n [a0] h
def A8G:=mL gA B0O 0 n [m] [x2,x4,x6,x33,x34] h
def A8H:=mL gA B0O 1 n [m] [x2,x4,x6,x45] h
def C1P:=gA.K Tryz.func189
def B0q:=gA.S
theorem B0r:SOk A8 189 B0q:=C1P.sok
theorem C0q:F6 A9A B0q:=C1P.flat
def pI:FD A8:=⟨px 0X12181b1de281b382212621fa1a284c191b96311ac1c4883d39442221e829155e07c2181a21fa3e61628c4284c1962a311ac65907c61967c2c01c488387e2c1191819c511a022954325215294324307024294324339617c12a294325229432406051291129432424323318821b1de13b042df6131e122e113e1043b3e819496311ac5e4883829296311ac4e4883819196311ac3e48838516311ac2e48818391a119432333c24881de1c32d96101ac06689432223b2d862ec22122,[],[.slA 32 1 (.t 1) A7 A7],[.cellN 2 11],[cal A2J,cal xK]⟩
def A9z:=pI.R
def B8t:AtH:=pI.lj 0 n [m] [x2,x3,x4,x17]
def C2m:=tT [⟨2,4,B8t⟩]
def C5P:=mR A9z pI C2m n [a0] h
def A8F:=mL pI C2m 0 n [m] [x2,x3,x4,x17] h
def C1O:=pI.K Tryz.func200
def B0o:=pI.S
theorem C6z:SOk A8 200 B0o:=C1O.sok
theorem C0p:F6 A9z B0o:=C1O.flat
def vZ:FD A8:=⟨px 0X17312181b1de281b2e3933222013312181b1de03b3e83322224672a2a804868b448483b6a48483b601637c4a1e172c42326c0682481de1d52d912a6801e1c695c1916111ac3a1b1a3918654215242234821b1de3b42d96101ac448739442132303b2d862ec32122,[.c (.b A6),.c (.b A5)],[.eqA A5 (E68 32 (.i .u8)) (.t 17) (.t 18)],[.cellN 2 11,.tmp 3],[cal C6z,cal B0r]⟩
def A3C:=vZ.R
def B9A:=mR A3C vZ (tT []) n [a0] h
def B3l:=vZ.K Tryz.func144
def A31:=vZ.S
theorem C0o:SOk A8 144 A31:=B3l.sok
theorem B5s:F6 A3C A31:=B3l.flat
def qN:FD A8:=⟨px 0X16821288961a7c5677c2889607c019152120118b921121224486149c889657c0713602211211212242c315617c04133022050131211012,[],[],[.tmp 2],[]⟩
def A9y:=qN.R
def B63:=mR A9y qN (tT []) n [a0] h
def A9f:=qN.K Tryz.func94
def A1o:=qN.S
theorem B7w:SOk A8 94 A1o:=A9f.sok
theorem B20:F6 A9y A1o:=A9f.flat
end
noncomputable section
variable (n m m2:Nat) (a0 a1 x2 x3 x4 x12 x13 x14:Val) (h:B5)
def wD:FD A8:=⟨px 0X11211212011921121224633a2a861e54c7f6288974c7f1c4c364c1f044c4f60632a2a81613a7f63a1f043a4f60631e2a82889652a7f3e2a3605617c2a712a381203383161c861c1444d431221062ec2112,[.c (.b A5)],[],[.tmp 2],[]⟩
def A3E:=wD.R
def B9H:=mR A3E wD (tT []) n [a0] h
def B3o:=wD.K Tryz.func190
def A34:=wD.S
theorem C0B:SOk A8 190 A34:=B3o.sok
theorem B5x:F6 A3E A34:=B3o.flat
def pL:FD A8:=⟨px 0X12284881de184883a3924121cc1e155e07c218621fa1a18148828c38061a07c2c061c01c2b4d71819801885161c1e2e11981a051e1d1c65432182151e1d1c43263070241e1d1c432631a617c11f1e1d1c432721e1d1c432606051061c861c14a4c41e1d1c4326242230123a4881de4a488382412241637c6101ac2a273931943242432331c2d842ec022ed343232,[],[],[.cellN 4 256],[cal C0B]⟩
def A9E:=pL.R
def B8U:AtH:=pL.lj 0 n [m] [x2,x3,x4,x12,x13,x14]
def C2o:=tT [⟨2,6,B8U⟩]
def C5X:=mR A9E pL C2o n [a0,a1] h
def A8N:=mL pL C2o 0 n [m] [x2,x3,x4,x12,x13,x14] h
def C1V:=pL.K Tryz.func121
def B0x:=pL.S
theorem B0y:SOk A8 121 B0x:=C1V.sok
theorem C0C:F6 A9E B0x:=C1V.flat
end
noncomputable section
variable (n m m2:Nat) (a0 a1 a2 x1 x2 x4 x5 x14:Val) (h:B5)
def wF:FD A8:=⟨px 0X115122821de6112a1022d3e861a13cc068800013fc289667c0381185422011bc5162821de3c002d3e845422241637c6e2c122d7640526403319c01982481de1d62d912a6801e2a6918c1f16101ac6e1b28391876404201195125a21de02d3e83542224631e2a849642c7f02c3601617c018161d4304243033102d2d8432ed343032,[.c (.b A5)],[.slA 32 1 (.t 6) A7 A7],[.cellN 4 2,.tmp 5],[cal B0r]⟩
def A3H:=wF.R
def B9K:=mR A3H wF (tT []) n [a0,a1] h
def B3r:=wF.K Tryz.func120
def A39:=wF.S
theorem C0I:SOk A8 120 A39:=B3r.sok
theorem B5z:D7e A3H A39:=B3r.tidy
def A0h:FD A8:=⟨px 0X11712384881de61a211ac6e2381c4882c39576220119c7166e4881de5a07e4883847622241637c3e281229191863521863337c078221de2d182d912e6802a1e696c1a161a201ac3e1b3841b11919186342101c2d81e52ed032ed4653142,[],[],[.cellN 6 256,.tmp 7],[cal C0I,cal B0y]⟩
def A6z:=A0h.R
def C3J:=mR A6z A0h (tT []) n [a0,a1,a2] h
def B6P:=A0h.K Tryz.func55
def A0m:=A0h.S
theorem A8g:SOk A8 55 A0m:=B6P.sok
theorem B7F:F6 A6z A0m:=B6P.flat
def pM:FD A8:=⟨px 0X1228481de2c483a3924121cc1e155e07c218621fa3e2c14828c61c618148828c61a07c7a0289667c405e2911918188611a021e6542162151e542153070241e542153289617c11f1e5421621e5421506051011e54215254230124e481de4a4838241224631e2a849642a7f42a3601617c47161c5421525421431d2d815421421d42d9022ed242132,[.c (.b A5)],[],[.cellN 4 32],[]⟩
def A9J:=pM.R
def B9a:AtH:=pM.lj 0 n [m] [x1,x2,x4,x5,x14]
def C2p:=tT [⟨2,5,B9a⟩]
def C51:=mR A9J pM C2p n [a0,a1] h
def A8S:=mL pM C2p 0 n [m] [x1,x2,x4,x5,x14] h
def C1Z:=pM.K Tryz.func145
def B0E:=pM.S
theorem C6J:SOk A8 145 B0E:=C1Z.sok
theorem C0J:F6 A9J B0E:=C1Z.flat
def A2l:FD A8:=⟨px 0X11985167a1b1de11a6806686111ac61a201ac405e4881d391854220135124a1b1de03b3e83542224671e2a84964287f4283601617c4061b4214242133303b42d9022ed342132,[.c (.b A6),.c (.b A5)],[],[.cellN 4 11,.tmp 5],[cal C6J,cal C0o]⟩
def A9I:=A2l.R
def C50:=mR A9I A2l (tT []) n [a0,a1] h
def C1Y:=A2l.K Tryz.func77
def B0D:=A2l.S
theorem C6I:SOk A8 77 B0D:=C1Y.sok
theorem C0H:F6 A9I B0D:=C1Y.flat
end
noncomputable section
variable (n m m2:Nat) (a0 a1 x1 x3 x14 x15:Val) (h:B5)
def B2n:FD A8:=⟨px 0X113121841de6131a3022e3e8381595d82833f39532221f821fa262d961a4883cc000004883c3fd564232016d3121841de02e3e83322224633a2a861e3587f6581cb05836581f028584f601637c6e2a1193a420424203318c0188231de2a42d913a6802e28697c1b16101ac6488381648819801c11a542042016d3124a41de02e3e833222241627c61c807131920322023102e22d922022,[.c (.b A5)],[],[.cellN 2 4,.tmp 3],[cal B0A]⟩
def D07:=B2n.R
def A0j:=mR D07 B2n (tT []) n [a0] h
def D00:=B2n.K Tryz.func12
def A0L:=B2n.Q
theorem B7G:SOk A8 12 A0L:=D00.ok
theorem A0n:OfT D07 A0L:=D00.of
def jN:FD A8:=⟨px 0X119841363a2a862a1397f6391f06394f06a394f439360361e2a8164297f429360068861c31e4c1f412341022ed22122,[.c (.b A6)],[.eqN A5 A5 (.t 6)],[.tmp 4],[]⟩
def qV:=jN.R
def A9M:=mR qV jN (tT []) n [a0,a1] h
def A2v:=jN.K Tryz.func146
def rP:=jN.S
theorem B0G:SOk A8 146 rP:=A2v.sok
theorem A7c:F6 qV rP:=A2v.flat
def A2m:FD A8:=⟨px 0X122a4881de64883861a4881980041c53121c32d9131032,[],[],[.cellN 3 256],[]⟩
def A9K:=A2m.R
def C52:=mR A9K A2m (tT []) n [a0,a1] h
def C10:=A2m.K Tryz.func41
def A2K:=A2m.S
theorem C6K:SOk A8 41 A2K:=C10.sok
theorem C0K:F6 A9K A2K:=C10.flat
def U0:FD A8:=⟨px 0X124e4881de611a5ec4061c34a4c54120122e4881de01c3e824122462bc61a201ac401e43841842142421331c42d9022ed242132,[],[],[.cellN 4 256],[cal B0G,cal C6K]⟩
def eZ:=U0.R
def pB:O3:=U0.E
def A46:TT:=⟨pB,[]⟩
def A09:=mR eZ U0 A46 n [a0,a1] h
def pN:=U0.K Tryz.func78
def fC:=U0.S
theorem J5:SOk A8 78 fC:=pN.sok
theorem yU:F6 eZ fC:=pN.flat
def jM:FD A8:=⟨px 0X12281b1de481b3d3924121e801dc21b1de3b182d913e6803a3b691d82d161a221ac38061a211ac2c01842e391b18422012281b1de03b3e824122462bc5e2a122b65425265424318c018807c5123e6813a6802e1f69781a161a201ac40633804e1b4d1b76542523b42d9022ed242132,[],[],[.cellN 4 11],[cal A8d,cal J5,cal C6I]⟩
def jO:=jM.R
def xE:=mR jO jM (tT []) n [a0,a1] h
def A2u:=jM.K Tryz.func35
def jS:=jM.S
theorem X7:SOk A8 35 jS:=A2u.sok
theorem rM:F6 jO jS:=A2u.flat
def Y9:FD A8:=⟨px 0X11cc211c39122121c81f154e07c218624881de2a2e48819861a211ac28044387e07e2a171818c411a021f1e43152151f1e3143070241f1e31431a617c1281f1e31521f1e31406051061c85a1d131f1e31423136831664881c5bc61c064c04194d531220148823b91212241637c6101ac63380454d4181221134883b862ec2112,[],[],[.tmp 2],[cal fA,cal J5]⟩
def qU:=Y9.R
def A1X:AtH:=Y9.lj 0 n [m] [x1,x3,x14,x15]
def A2N:=tT [⟨2,4,A1X⟩]
def A9L:=mR qU Y9 A2N n [a0] h
def tU:=mL Y9 A2N 0 n [m] [x1,x3,x14,x15] h
def A2t:=Y9.K Tryz.func51
def rJ:=Y9.S
theorem B0F:SOk A8 51 rJ:=A2t.sok
theorem A80:oP qU rJ:=A2t.out
def mV:FD A8:=⟨px 0X11d841363a2a861a23591af3459361a22591af01591af184593b60363a2a862a13b7f63b1f063b4f06e3b4f43b360361e2a81642b7f42b3601627c6101ac633801e4c2c019413341022ed22122,[.c (.b A6)],[],[.tmp 4],[cal fA,cal wL,cal J5,cal C55]⟩
def uK:=mV.R
def B2Q:=mR uK mV (tT []) n [a0,a1] h
def A4N:=mV.K Tryz.func62
def uQ:=mV.S
theorem B22:SOk A8 62 uQ:=A4N.sok
theorem A81:F6 uK uQ:=A4N.flat
end
def IsView (h:B5) (f:Cell) (D:Dev):Prop:=∃ r q rw rw',f=.f 41 [(r,0)]/\rd h r=A4 ⟨[.sl q 0 D.length 256],rw⟩/\rd h q=A4 ⟨D5 D,rw'⟩
theorem IsView.ro {h:B5} {f:Cell} {D:Dev} (hv:IsView h f D):IsView (ro h) f D:=by
 obtain ⟨r,q,rw,rw',e,h1,h2⟩:=hv;exact ⟨r,q,A6,A6,e,B80 h1 rfl,B80 h2 (dX D)⟩
theorem IsView.more {h:B5} {f:Cell} {D:Dev} (hv:IsView h f D) (l:B5):IsView (h++l) f D:=by
 obtain ⟨r,q,rw,rw',e,h1,h2⟩:=hv;exact ⟨r,q,rw,rw',e,C5 h1,C5 h2⟩
theorem IsView.since {g h:B5} {f:Cell} {D:Dev} (hv:IsView g f D) (h1:Low g.length g h):IsView h f D:=by
 obtain ⟨r,q,rw,rw',e,h2,h3⟩:=hv;exact ⟨r,q,rw,rw',e,h1.rd h2,h1.rd h3⟩
theorem IsView.get {h:B5} {f:Cell} {D:Dev} (hv:IsView h f D):∃ id cs,f=.f id cs:=by
 obtain ⟨r,q,rw,rw',e,_⟩:=hv;exact ⟨_,_,e⟩
def vwC (b n m:Int) (f:Cell):List Cell:=[.i .i64 b,.i .i64 n,.i .u64 m,f]
section
variable {D:Dev} {n m:Int} {f:Cell}
theorem D5X {b:Int}:ldN (rT (vwC b n m f)) 0 3=A4 (.a (D8 b n m)):=rfl
theorem E1G {b:Int}:ldN (rT (vwC b n m f)) 0 4=A4 (.a (vwC b n m f)):=rfl
end
theorem D3R {h:B5} {r q:Nat} {rw rw':Bool} {D:Dev} {no:Nat} (hD:okD D) (cH:no<D.length) (h1:rd h r=A4 ⟨[.sl q 0 D.length 256],rw⟩) (h2:rd h q=A4 ⟨D5 D,rw'⟩) :
  A2K [iV (no:Int),pV r 0] h=A4 (.a (B4 D[no]),h):=by
 have key:∀ g rw rw',rd g r=A4 ⟨[.sl q 0 D.length 256],rw⟩->rd g q=A4 ⟨D5 D,rw'⟩->∃ g',A9K 0 [iV (no:Int),pV r 0] g=A4 (.a (B4 D[no]),g'):=by
  intro g rw rw' h1 h2;have hz:(E68 256 (Cell.i .u8 0)).length=256:=E7B;have hB:(B4 D[no]).length=256:=by rw [A9,hD.at cH]
  have l1:B8 (g++[rT (E68 256 (.i .u8 0))]) (pV r 0)=A4 (sV q 0 D.length 256):=C4 (cs:=[.sl q 0 D.length 256]) (C5 h1) rfl (by cases rw<;>rfl);have a1:E1 256 (sV q 0 D.length 256) (iV (no:Int))=A4 (pV q (0+no*256)):=C9 cH;have l2:D4 (g++[rT (E68 256 (.i .u8 0))]) 256 (pV q (0+no*256))=A4 (.a (B4 D[no])):=by
   rw [dI (cs:=D5 D) (rw:=rw') (C5 h2) (by rw [J0 hD];omega) (by
    rw [E7t,cV hD cH,F9];simp),E7t,cV hD cH]
  rw [E7t] at a1 l2;rw [C52];generalize E68 256 (Cell.i .u8 0)=z at *;generalize B4 D[no]=y at *;exact ⟨_,by simp only [esc,esh,Nat.reduceAdd,Nat.reduceMul,Nat.reduceLT,l1,a1,l2,hz,hB]<;>rfl⟩
 obtain ⟨g',e⟩:=key (ro h) A6 A6 (B80 h1 rfl) (B80 h2 (dX D));exact C0K e (by simp [Val.flat])
theorem D0J {b n m no:Int} {f:Nat} {cs:List (Nat × Nat)} {h:B5}:rP [.a (vwC b n m (.f f cs)),iV no] h=A4 (bV (decide (0<=no)&&decide (no<b)),h):=by
 have key:∀ g,∃ g',qV 0 [.a (vwC b n m (.f f cs)),iV no] g=A4 (bV (decide (0<=no)&&decide (no<b)),g'):=by
  intro g;rw [A9M];unfold vwC;by_cases c1:0<=no
  ·exact ⟨_,by simp only [esc,esh,Nat.reduceAdd,Nat.reduceMul,Nat.reduceLT,c1]<;>rfl⟩
  ·exact ⟨_,by simp only [esc,esh,Nat.reduceAdd,Nat.reduceMul,Nat.reduceLT,c1,E7f]<;>rfl⟩
 obtain ⟨g',e⟩:=key (ro h);exact A7c e rfl
theorem bI {n m no:Int} {f:Cell} {D:Dev} {h:B5} (hD:okD D) (hv:IsView h f D):fC [.a (vwC D.length n m f),iV no] h=A4 (.a (B4 (blk D no)),h):=by
 have key:∀ g,IsView g f D->∃ g',eZ 0 [.a (vwC D.length n m f),iV no] g=A4 (.a (B4 (blk D no)),g'):=by
  intro g hv;have hz:(B4 (zeros 256)).length=256:=by rw [A9];exact zeros_length
  have hB:(B4 (blk D no)).length=256:=by rw [A9,O5 hD]
  obtain ⟨r,q,rw',rw'',rfl,h1,h2⟩:=hv;have hT:=λh=>D0J (b:=D.length) (n:=n) (m:=m) (no:=no) (f:=41) (cs:=[(r,0)]) (h:=h)
  have hcv:∀ (x:Val) (h:B5),A2R pB (.c (.f 41 [(r,0)])) [x] h=A2K [x,pV r 0] h:=λ_ _=>Eq.trans rfl rfl
  rw [A09,I7];by_cases c1:0<=no/\no<D.length
  ·have c2:=c1.1;have c3:=c1.2;obtain ⟨k,rfl⟩:∃ k:Nat,no=k:=⟨no.toNat,by omega⟩;have e1:=C0R (D:=D) (i:=k) (by omega);have hO:=D3R (h:=g++[rT (vwC D.length n m (.f 41 [(r,0)])),rT (B4 (zeros 256))]) hD (show k<D.length by omega) (C5 h1) (C5 h2);rw [<-e1] at hO;simp only [c2,c3,decide_true,Bool.and_self] at hT;generalize B4 (zeros 256)=z at *;generalize B4 (blk D k)=y at *;unfold vwC at *;exact ⟨_,by simp only [esc,esh,Nat.reduceAdd,Nat.reduceMul,Nat.reduceLT,hT,hcv,hO,hz,hB]<;>rfl⟩
  ·have e1:=D4x (D:=D) (i:=no) (by omega);have ht:(decide (0<=no)&&decide (no<(D.length:Int)))=A6:=by
    rw [Bool.and_eq_false_iff,decide_eq_false_iff_not,decide_eq_false_iff_not];omega
   simp only [ht] at hT;rw [e1] at hB ⊢;have ef:E4 (B4 (zeros 256)) []=A4 (B4 (zeros 256)):=rfl;generalize B4 (zeros 256)=z at *;unfold vwC at *;exact ⟨_,by simp only [esc,esh,Nat.reduceAdd,Nat.reduceMul,Nat.reduceLT,hT,ef,hz]<;>rfl⟩
 obtain ⟨g',e⟩:=key (ro h) hv.ro;exact yU e (by simp [Val.flat])
theorem E1X {h:B5} {id m sz:Nat} {ys:List Cell} {y:Val} (hr:rd h id=rT []) (hy:Has h y sz m ys) (hsz:0<sz) (hn:m<=1073741824) :
  jZ h sz (sV id 0 0 sz) y=A4 (sV h.length 0 m sz,h.set id A7++[rT ys]):=by
 have h1:=hy.add;have h2:ys.length/sz=m:=by rw [hy.length];exact Nat.mul_div_cancel m hsz
 simp only [jZ,h1,hr,E7h,h2,E7m,E7t];rw [if_pos ⟨trivial,trivial,by simp,trivial,hn⟩]
def A4f (D:Dev):Bool:=okS (D.headD [])&&decide (fieldN (D.headD []) 8 2=D.length)
def A7p (D:Dev):Int:=fieldN (D.headD []) 10 2
def D4O (D:Dev):Int:=fieldN (D.headD []) 12 8
theorem D5W {v:Val} {h:B5} (hv:Has h v 256 0 []):∃ t,A0L [v] h=A4 (.t [.a (vwC 0 0 0 .nf),.c (.i .i64 13)],h++t):=by
 have ef:E4 [o0,o0,.i .u64 0,.nf] []=A4 [o0,o0,.i .u64 0,.nf]:=rfl;have hl:=hv.len;rw [show ((0:Nat):Int)=0 from rfl] at hl;exact ⟨_,A0n (n:=0) (by rw [A0j];simp only [esc,esh,Nat.reduceAdd,Nat.reduceMul,Nat.reduceLT,hl,ef,vwC]<;>rfl)⟩
theorem D7E {b:List UInt8} (h:okS b=A6):C1b b=D8 0 0 0:=by unfold C1b;rw [h];rfl
theorem D3h {b:List UInt8} (h:okS b=A5):C1b b=D8 (fieldN b 8 2) (fieldN b 10 2) (fieldN b 12 8):=by unfold C1b;rw [h];rfl
theorem D68 {v:Val} {D:Dev} {h:B5} (hv:Has h v 256 D.length (D5 D)) (hD:okD D) (h0:0<D.length) (hn:A4f D=A6):∃ t,A0L [v] h=A4 (.t [.a (vwC 0 0 0 .nf),.c (.i .i64 13)],h++t):=by
 have ef:E4 [o0,o0,.i .u64 0,.nf] []=A4 [o0,o0,.i .u64 0,.nf]:=rfl;have hl:=hv.len;have hv2:=hv.more [rT [o0,o0,.i .u64 0,.nf]];obtain ⟨b,E,rfl⟩:∃ b E,D=b::E:=by cases D with | nil=>simp at h0 | cons b E=>exact ⟨b,E,rfl⟩
 obtain ⟨id,off,rfl,hid,_,hB⟩:=hv2.sl h0;have hBl:(B4 b).length=256:=by rw [A9,hD.cons.1]
 have l2:=hB 0 256 (by rw [J0 hD];omega);have ec:((D5 (b::E)).drop 0).take 256=B4 b:=by
  have:=cV (i:=0) hD h0
  rwa [Nat.zero_mul] at this
 rw [ec,Nat.add_zero] at l2;have a1:E1 256 (sV id off (b::E).length 256) (iV 0)=A4 (pV id off):=by
  have:=C9 (k:=.i64) (id:=id) (off:=off) (sz:=256) (j:=0) (len:=(b::E).length) h0
  rwa [Nat.zero_mul,Nat.add_zero] at this
 have hG:=λh=>A7U (h:=h) hD.cons.1
 have c0:¬ (((b::E).length:Nat):Int)=0:=by omega
 have n13:¬ (13:Int)=0:=by decide
 unfold A4f at hn;simp only [List.headD_cons] at hn;cases ho:okS b with
 | false =>
  simp only [ho,D7E ho,cond_false] at hG;refine ⟨[rT [o0,o0,.i .u64 0,.nf],rT [o0,o0,.i .u64 0]],A0n (n:=0) ?_⟩;rw [A0j];generalize (b::E).length=N at *;generalize B4 b=y at *;unfold D8 at *;simp only [esc,esh,Nat.reduceAdd,Nat.reduceMul,Nat.reduceLT,ef,vwC,l2,a1,hG,n13,eq_self,c0]<;>rfl
 | true =>
  rw [ho,E7j] at hn
  replace hn:=of_decide_eq_false hn
  simp only [ho,D3h ho,cond_true] at hG;refine ⟨[rT [o0,o0,.i .u64 0,.nf],rT [.i .i64 (fieldN b 8 2),.i .i64 (fieldN b 10 2),.i .u64 (fieldN b 12 8)]],A0n (n:=0) ?_⟩;rw [A0j];generalize (b::E).length=N at *;generalize B4 b=y at *;generalize fieldN b 8 2=n1 at *;unfold D8 at *;simp only [esc,esh,Nat.reduceAdd,Nat.reduceMul,Nat.reduceLT,ef,vwC,l2,a1,hG,n13,eq_self,c0,hn]<;>rfl
theorem D5V {v:Val} {D:Dev} {h:B5} (hv:Has h v 256 D.length (D5 D)) (hD:okD D) (hn:A4f D=A6):∃ t,A0L [v] h=A4 (.t [.a (vwC 0 0 0 .nf),.c (.i .i64 13)],h++t):=by
 by_cases h0:D=[]
 ·subst h0;exact D5W hv
 ·exact D68 hv hD (List.length_pos_iff.2 h0) hn
theorem C9c {v:Val} {D:Dev} {h:B5} (hv:Has h v 256 D.length (D5 D)) (hD:okD D) (hn:A4f D=A5) (h60:D.length<=1073741824) :
  ∃ f t,A0L [v] h=A4 (.t [.a (vwC D.length (A7p D) (D4O D) f),.c o0],h++t)/\IsView (h++t) f D:=by
 obtain ⟨b,E,rfl⟩:∃ b E,D=b::E:=by
  cases D with
  | nil=>simp only [A4f,List.headD_nil,E7v,E69,decide_eq_true_eq] at hn;exact absurd hn.1 (by decide)
  | cons b E=>exact ⟨b,E,rfl⟩
 have h0:0<(b::E).length:=by simp
 have hv2:=hv.more [rT [o0,o0,.i .u64 0,.nf]];unfold A4f at hn;simp only [List.headD_cons,E69,decide_eq_true_eq] at hn;have ho:=hn.1;have hn2:=of_decide_eq_true hn.2;have hv3:=hv.more [rT [o0,o0,.i .u64 0,.nf],rT (D8 (b::E).length (fieldN b 10 2) (fieldN b 12 8)),rT []];obtain ⟨id,off,rfl,hid,_,hB⟩:=hv2.sl h0;have hBl:(B4 b).length=256:=by rw [A9,hD.cons.1]
 have l2:=hB 0 256 (by rw [J0 hD];omega);have ec:((D5 (b::E)).drop 0).take 256=B4 b:=by
  have:=cV (i:=0) hD h0
  rwa [Nat.zero_mul] at this
 rw [ec,Nat.add_zero] at l2;have a1:E1 256 (sV id off (b::E).length 256) (iV 0)=A4 (pV id off):=by
  have:=C9 (k:=.i64) (id:=id) (off:=off) (sz:=256) (j:=0) (len:=(b::E).length) h0
  rwa [Nat.zero_mul,Nat.add_zero] at this
 have hG:=λh=>A7U (h:=h) hD.cons.1
 have c0:¬ (((b::E).length:Nat):Int)=0:=by omega
 have n13:¬ (13:Int)=0:=by decide
 simp only [ho,D3h ho,cond_true,hn2] at hG;have eN:A7p (b::E)=fieldN b 10 2:=rfl;have eM:D4O (b::E)=fieldN b 12 8:=rfl;have hA:=E1X (id:=h.length+2) (by simp) hv3 (by omega) h60;have ef1:E4 ([]:List Cell) []=A4 []:=rfl;have V5:id<h.length:=by
  rcases hv with ⟨e,_⟩ | ⟨i,o,r,e,hr,_⟩
  ·cases e
  ·cases e;exact C8 hr
 rw [eN,eM];unfold IsView;generalize D5 (b::E)=C at *;have emk:B5H 41 [pV (h.length+4) 0]=A4 (.c (.f 41 [(h.length+4,0)])):=rfl;refine ⟨.f 41 [(h.length+4,0)],[rT (vwC (b::E).length (fieldN b 10 2) (fieldN b 12 8) (.f 41 [(h.length+4,0)])),rT (D8 (b::E).length (fieldN b 10 2) (fieldN b 12 8)),A7,rT C,rT [.sl (h.length+3) 0 (b::E).length 256]],A0n (n:=0) ?_,h.length+4,h.length+3,A5,A5,rfl,L5,L5⟩;rw [A0j];generalize (b::E).length=N at *;generalize B4 b=y at *;generalize fieldN b 10 2=n1 at *;generalize fieldN b 12 8=n2 at *;have ef2:∀ x,E4 [o0,o0,.i .u64 0,.nf] [(0,3,.a [.i .i64 (N:Int),.i .i64 n1,.i .u64 n2]),(3,1,.c x)]=A4 [.i .i64 (N:Int),.i .i64 n1,.i .u64 n2,x]:=λ_=>rfl
 unfold D8 vwC at *;simp only [esc,esh,Nat.reduceAdd,Nat.reduceMul,Nat.reduceLT] at hA;simp only [esc,esh,Nat.reduceAdd,Nat.reduceMul,Nat.reduceLT,l2,a1,hG,n13,eq_self,c0,hA,ef1,ef2,emk]<;>rfl
noncomputable section
variable (n m m2:Nat) (a0 a1:Val) (h:B5)
def qO:FD A8:=⟨px 0X14821361e2a81889611b7f01b3601647c0072123211012,[.c (.b A6)],[],[.tmp 2],[]⟩
def A08:=qO.R
def B65:=mR A08 qO (tT []) n [a0] h
def A9g:=qO.K Tryz.func198
def A1q:=qO.S
theorem B7C:SOk A8 198 A1q:=A9g.sok
theorem B21:F6 A08 A1q:=A9g.flat
def A0g:FD A8:=⟨px 0X15c411961e311ac61967c403a488183954120114114122462bc6101ac403721322123141022ed22122,[],[],[.tmp 4],[cal B7C,cal xK]⟩
def A6y:=A0g.R
def C3I:=mR A6y A0g (tT []) n [a0,a1] h
def B6O:=A0g.K Tryz.func142
def A7b:=A0g.S
theorem C4q:SOk A8 142 A7b:=B6O.sok
theorem B7B:F6 A6y A7b:=B6O.flat
end
def nR (d:List Int):List UInt8:=(d.map (B9 2)).flatten
theorem B8O {d:List Int}:(nR d).length=2*d.length:=by
 induction d with
 | nil=>rfl
 | cons x d ih=>simp only [nR,E79,List.flatten_cons,E7a,Q5,E7g] at ih ⊢;omega
theorem C8u {d:List Int} {x:Int}:nR (d++[x])=nR d++B9 2 x:=by simp [nR]
def ptP (b:List UInt8) (i:Nat):Int:=fieldN b (2*i) 2
theorem D83 (b:List UInt8) (i:Nat):0<=ptP b i/\ptP b i<65536:=by
 unfold ptP fieldN;have h1:=C23 ((b.drop (2*i)).take 2);have h2:((b.drop (2*i)).take 2).length<=2:=by simp;omega
 have h3:=vN h2;have h4:(256:Nat) ^ 2=65536:=by decide
 omega
theorem C4C {k:Nat} {h:B5} (hk:k<128):A1q [iV k] h=A4 (bV A5,h):=by
 have key:∀ g,∃ g',A08 0 [iV k] g=A4 (bV A5,g'):=by
  intro g;have c1:(0:Int)<=k:=by omega
  have c2:(k:Int)<128:=by omega
  rw [B65];exact ⟨_,by simp only [esc,c1,c2]<;>rfl⟩
 obtain ⟨g',e⟩:=key (ro h);exact B21 e rfl
theorem E3g {b:List UInt8} {i:Nat} (hb:b.length=256) (hi:i<128):((atN b ((2*i:Nat):Int) 2:Nat):Int)=ptP b i:=by
 unfold atN ptP fieldN;rw [if_pos ⟨by omega,O0.2 (by omega)⟩];simp only [E7r];rfl
theorem D69 {i:Nat} (hi:i<128):IntKind.wrap .i64 (2*(i:Int))=((2*i:Nat):Int):=by rw [wrap_i64 (by omega) (by omega)];omega
theorem D0y {b:List UInt8} {k:Nat} {h:B5} (hb:b.length=256) (hk:k<128):A7b [.a (B4 b),iV k] h=A4 (iV (ptP b k),h):=by
 have key:∀ g,∃ g',A6y 0 [.a (B4 b),iV k] g=A4 (iV (ptP b k),g'):=by
  intro g;have hB:(B4 b).length=256:=by rw [A9,hb]
  have hT:=λh=>C4C (h:=h) hk
  have hA:=λh=>nG (h:=h) hb (a:=((2*k:Nat):Int)) (w:=2)
  rw [E3g hb hk] at hA;rw [C3I];exact ⟨_,by simp only [esc,esh,Nat.reduceAdd,Nat.reduceMul,Nat.reduceLT,hB,hT,D69 hk,hA]<;>rfl⟩
 obtain ⟨g',e⟩:=key (ro h);exact B7B e rfl
def zI (n:Nat):List Int:=E68 n 0
theorem I8 {n:Nat}:(zI n).length=n:=by simp [zI]
abbrev F8 (k l s p:Int) (d:List Int):List Cell:=.i .i64 k::.i .i64 l::.i .i64 s::.i .i64 p::encI d
def N5 (n:Int):Bool:=decide (0<=n)&&decide (n<=65535)
theorem B2c {n:Int}:N5 n=A5↔0<=n/\n<=65535:=by unfold N5;simp
theorem Y4 {n:Int} {h:B5}:A32 [iV n] h=A4 (bV (N5 n),h):=by
 refine B5t (n:=0) (h2:=ro h) ?_ rfl;rw [B9B];unfold N5;by_cases c:0<=n
 ·simp only [esc,c,E7j]
 ·simp only [esc,c,E7f]
theorem C4z {n:Int} {h:B5}:A1o [iV n] h=A4 (iV (if n<1 then 0 else if 34304<n then 134 else (n+255)/256),h):=by
 refine B20 (n:=0) (h2:=ro h) ?_ rfl;rw [B63];by_cases c1:n<1
 ·rw [if_pos c1];simp only [esc,c1]
 ·rw [if_neg c1];by_cases c2:34304<n
  ·rw [if_pos c2];simp only [esc,c1,c2]
  ·rw [if_neg c2];have e1:IntKind.wrap .i64 (n+256)=n+256:=wrap_i64 (by omega) (by omega);have e2:IntKind.wrap .i64 (n+256-1)=n+255:=by rw [wrap_i64 (by omega) (by omega)];omega
   simp only [esc,c1,c2,e1,e2,A0C (a:=n+255) (b:=256) (by omega) (by omega) (by omega)]
theorem B8N {g:B5} {k l s p:Int} {d:List Int} {z:List Cell} {q:Nat} (hd:d.length=7) (hz:z.length=7):∀ e i m:Nat,i+e=6->e<m ->
  A5G q m (pV g.length 0) (pV (g.length+1) 0) (pV (g.length+2) 0) (.a (encI (d.take 6))) (iV i) (g++[rT (F8 k l s p d),rT z,rT (encI (d.take i++zI (7-i)))]) =
   A4 (.a (encI d),g++[rT (F8 k l s p d),rT (encI d),rT (encI d)])
 | e,i,0,_,hm=>by omega
 | 0,i,m+1,hi,hm=>by
  have e0:i=6:=by omega
  subst e0;have h1':¬ ((6:Nat):Int)<6:=by omega
  have l1:(F8 k l s p d)[10]?=A4 (.i .i64 d[6]):=by
   have:(encI d)[6]?=A4 (.i .i64 d[6]):=by rw [G8,E66 (by omega)];rfl
   exact this
  have a1:J8 7 1 (pV (g.length+2) 0) (iV 6)=A4 (pV (g.length+2) 6):=rfl;have ho:6<(encI (d.take 6++zI (7-6))).length:=by rw [B7,E7a,I8,E7A];omega
  have es:(encI (d.take 6++zI (7-6))).set 6 (.i .i64 d[6])=encI d:=by
   rw [aK]
   congr 1
   have h6:(d.take 6).length=6:=by simp;omega
   rw [E7I _ _ (by omega),h6];have:d=d.take 6++[d[6]]:=by
    rw [<-E7n (by omega),E7i (by omega)]
   conv=>rhs;rw [this]
   rfl
  have hl:(encI d).length=7:=by rw [B7,hd]
  rw [zS];simp only [esc,esh,Nat.reduceAdd,Nat.reduceMul,Nat.reduceLT,h1',l1,a1,ho,es,hl,hz]
 | e+1,i,m+1,hi,hm=>by
  have ih:=B8N (g:=g) (k:=k) (l:=l) (s:=s) (p:=p) (q:=q) hd hz e (i+1) m (by omega) (by omega);have h1':(i:Int)<6:=by omega
  have hx:A4c 6 (.a (encI (d.take 6))) (iV (i:Int))=A4 (iV d[i]):=by
   rw [B8k (by omega),G8,E7G (by omega),E66 (by omega)];rfl
  have a1:J8 7 1 (pV (g.length+2) 0) (iV (i:Int))=A4 (pV (g.length+2) i):=by rw [J4 (by omega)];simp
  have ho:i<(encI (d.take i++zI (7-i))).length:=by rw [B7,E7a,I8,E7A];omega
  have es:(encI (d.take i++zI (7-i))).set i (.i .i64 d[i])=encI (d.take (i+1)++zI (7-(i+1))):=by
   rw [aK];refine congrArg encI ?_;have h6:(d.take i).length=i:=by simp;omega
   rw [E7I _ _ (by omega),h6,E7R,E7n (by omega),E7c];refine congrArg (d.take i ++ ·) ?_;rw [show 7-i=7-(i+1)+1 by omega];unfold zI;rw [E7z,E7T];rfl
  rw [zS];simp only [esc,esh,Nat.reduceAdd,Nat.reduceMul,Nat.reduceLT,h1',hx,a1,ho,es,D3 (show i+1<9223372036854775808 by omega)];exact ih
theorem E2n {k l s p:Int} {d:List Int} (hd:d.length=7):ldN (rT (F8 k l s p d)) 4 6=A4 (.a (encI (d.take 6))):=by
 have h1:(F8 k l s p d).length=11:=by simp [B7,hd]
 simp only [ldN,E7h];rw [if_pos ⟨by omega,by simp⟩];simp only [List.drop_succ_cons,E7p];unfold encI;rw [List.map_take]
theorem nD {k l s p:Int} {d:List Int} {h:B5} (hd:d.length=7):oN [.a (F8 k l s p d)] h=A4 (.a (encI d),h):=by
 have key:∀ N,7<N->∀ g,∃ g',yQ N [.a (F8 k l s p d)] g=A4 (.a (encI d),g'):=by
  intro N hN g;have:=B8N (g:=g) (k:=k) (l:=l) (s:=s) (p:=p) (z:=encI (zI 7)) (q:=N) hd (by rw [B7,I8]) 6 0 N (by omega) (by omega);have e0:encI (d.take 0++zI (7-0))=[o0,o0,o0,o0,o0,o0,o0]:=rfl;have e1:encI (zI 7)=[o0,o0,o0,o0,o0,o0,o0]:=rfl;rw [e0,e1] at this;rw [B4K];exact ⟨_,by simp only [esc,esh,Nat.reduceAdd,Nat.reduceMul,Nat.reduceLT,E2n hd];exact this⟩
 obtain ⟨g',e⟩:=key (h.length+8) (by omega) (ro h);exact B0p e (by simp)
def D2k (l s p:Int) (d:List Int):Bool:=decide (l=0/\s=0/\p=0/\d=zI 7)
def A3d (k l s p:Int) (d:List Int):Bool:=decide (0<=k/\k<=2)&&(N5 l&&(N5 p&&(decide (0<=s/\s<=34304)&&d.all N5)))
def A1P (k l s p:Int) (d:List Int):Bool:=if k=0 then D2k l s p d else A3d k l s p d
theorem C2C {h:B5} {d:List Int} {q:Nat} (hd:d.length=7):∀ e i m:Nat,i+e=7->e<m ->
  B1I q m (.a (encI d)) (iV i) h=A4 (iV (bif (d.drop i).all N5 then 0 else 1),h)
 | e,i,0,_,hm=>by omega
 | 0,i,m+1,hi,hm=>by
  have c0:¬ (i:Int)<7:=by omega
  rw [A27,E7k (by omega)];simp only [esc,c0,List.all_nil]
 | e+1,i,m+1,hi,hm=>by
  have ih:=C2C (h:=h) (q:=q) hd e (i+1) m (by omega) (by omega);have c0:(i:Int)<7:=by omega
  have hx:A4c 7 (.a (encI d)) (iV (i:Int))=A4 (iV d[i]):=by
   rw [B8k (by omega),G8,E66 (by omega)];rfl
  rw [A27,E7d (by omega),E7P];cases c1:N5 d[i] with
  | true =>
   simp only [esc,c0,hx,Y4,c1,E7j,D3 (show i+1<9223372036854775808 by omega)];exact ih
  | false=>simp only [esc,c0,hx,Y4,c1,E7f]
theorem D7f {k l s p k' l' s' p':Int} {d d':List Int} {neg:Bool} (hd:d.length=7) (hd':d'.length=7) :
  aeq neg [Sh.i .i64,.i .i64,.i .i64,.i .i64,.i .i64,.i .i64,.i .i64,.i .i64,.i .i64,.i .i64,.i .i64] (.a (F8 k l s p d)) (.a (F8 k' l' s' p' d'))=A4 (bV (bif neg then !decide (k::l::s::p::d=k'::l'::s'::p'::d') else decide (k::l::s::p::d=k'::l'::s'::p'::d'))):=by
 have h1:=D9A (l:=k::l::s::p::d) (m:=k'::l'::s'::p'::d') (n:=11) (by simp [hd]) (by simp [hd']);have h2:=D54 (l:=k::l::s::p::d) (m:=k'::l'::s'::p'::d') (n:=11) (by simp [hd]) (by simp [hd']);cases neg
 ·exact h2
 ·exact h1
theorem D50 {l s p:Int} {d:List Int}:decide ((0:Int)::l::s::p::d=0::0::0::0::zI 7)=D2k l s p d:=by
 unfold D2k;simp
theorem A48:E4 [o0,o0,o0,o0,o0,o0,o0,o0,o0,o0,o0] []=A4 (F8 0 0 0 0 (zI 7)):=rfl
theorem B1H {k l s p:Int} {d:List Int} {h:B5} (hd:d.length=7):A30 [.a (F8 k l s p d)] h=A4 (iV (bif A1P k l s p d then 0 else 1),h):=by
 have hlen:(F8 k l s p d).length=11:=by simp [B7,hd]
 have key:∀ N,8<N->∀ g,∃ g',A3B N [.a (F8 k l s p d)] g=A4 (iV (bif A1P k l s p d then 0 else 1),g'):=by
  intro N hN g;have lp:=λg=>C2C (h:=g) (q:=N) hd 7 0 N (by omega) (by omega)
  simp only [E7p,E7F] at lp;rw [B9z];unfold A1P;by_cases k0:k=0
  ·subst k0;rw [if_pos rfl];have c1:¬ (0:Int)<0:=by omega
   have c2:¬ (2:Int)<0:=by omega
   have hq:=D7f (k:=0) (l:=l) (s:=s) (p:=p) (k':=0) (l':=0) (s':=0) (p':=0) (neg:=A5) hd (I8 (n:=7));simp only [cond_true,D50] at hq;cases hz:D2k l s p d with
   | false =>
    rw [hz] at hq;exact ⟨_,by simp only [esc,esh,Nat.reduceAdd,Nat.reduceMul,Nat.reduceLT,c1,c2,hlen,A48,hq]<;>rfl⟩
   | true =>
    rw [hz] at hq;have hz':=of_decide_eq_true hz;obtain ⟨rfl,rfl,rfl,rfl⟩:=hz';have sm:N5 0=A5:=by decide
    have al:(zI 7).all N5=A5:=by decide
    have c3:¬ (34304:Int)<0:=by omega
    rw [al] at lp;exact ⟨_,by simp only [esc,esh,Nat.reduceAdd,Nat.reduceMul,Nat.reduceLT,c1,c2,c3,hlen,A48,hq,Y4,sm,nD hd,lp]<;>rfl⟩
  ·rw [if_neg k0];unfold A3d;by_cases c1:k<0
   ·rw [decide_eq_false (show ¬ (0<=k/\k<=2) by omega)];exact ⟨_,by simp only [esc,esh,Nat.reduceAdd,Nat.reduceMul,Nat.reduceLT,c1,E7f]<;>rfl⟩
   ·by_cases c2:2<k
    ·rw [decide_eq_false (show ¬ (0<=k/\k<=2) by omega)];exact ⟨_,by simp only [esc,esh,Nat.reduceAdd,Nat.reduceMul,Nat.reduceLT,c1,c2,E7f]<;>rfl⟩
    ·rw [decide_eq_true (show 0<=k/\k<=2 by omega),E7j];cases sl:N5 l with
     | false=>exact ⟨_,by simp only [esc,esh,Nat.reduceAdd,Nat.reduceMul,Nat.reduceLT,c1,c2,k0,Y4,sl,E7f]<;>rfl⟩
     | true =>
      cases sp:N5 p with
      | false=>exact ⟨_,by simp only [esc,esh,Nat.reduceAdd,Nat.reduceMul,Nat.reduceLT,c1,c2,k0,Y4,sl,sp,E7j,E7f]<;>rfl⟩
      | true =>
       by_cases c3:s<0
       ·rw [decide_eq_false (show ¬ (0<=s/\s<=34304) by omega)];exact ⟨_,by simp only [esc,esh,Nat.reduceAdd,Nat.reduceMul,Nat.reduceLT,c1,c2,k0,Y4,sl,sp,c3,E7j,E7f]<;>rfl⟩
       ·by_cases c4:34304<s
        ·rw [decide_eq_false (show ¬ (0<=s/\s<=34304) by omega)];exact ⟨_,by simp only [esc,esh,Nat.reduceAdd,Nat.reduceMul,Nat.reduceLT,c1,c2,k0,Y4,sl,sp,c3,c4,E7j,E7f]<;>rfl⟩
        ·rw [decide_eq_true (show 0<=s/\s<=34304 by omega)];exact ⟨_,by simp only [esc,esh,Nat.reduceAdd,Nat.reduceMul,Nat.reduceLT,c1,c2,k0,Y4,sl,sp,c3,c4,E7j,hlen,nD hd,lp]<;>rfl⟩
 obtain ⟨g',e⟩:=key (h.length+9) (by omega) (ro h);exact B5r e rfl
def sT (k l s p:Int):List UInt8:=B9 1 k++zeros 1++B9 2 l++B9 4 s++B9 2 p
def sK (d:List Int):List UInt8:=(d.map (B9 2)).flatten
def gZ (k l s p:Int) (d:List Int):List UInt8:=sT k l s p++sK d++zeros 8
theorem gG {k l s p:Int}:(sT k l s p).length=10:=by simp [sT]
theorem lO {d:List Int}:(sK d).length=2*d.length:=by
 unfold sK
 induction d with
 | nil=>rfl
 | cons x d ih=>simp only [E79,List.flatten_cons,E7a,Q5,E7g,ih];omega
theorem lM {k l s p:Int} {d:List Int} (hd:d.length=7):(gZ k l s p d).length=32:=by
 unfold gZ;rw [E7a,E7a,gG,lO,zeros_length,hd]
theorem C08 {d:List Int} {x:Int}:sK (d++[x])=sK d++B9 2 x:=by simp [sK]
theorem D8B {k l s p:Int}:iQ (iQ (iQ (iQ (zeros 256) 0 1 k) 2 2 l) 4 4 s) 8 2 p=O7 256 (sT k l s p):=by
 rw [<-B8R];have h1:=iY (l:=[]) (a:=0) (w:=1) (v:=k) (by simp) (by omega) (by omega) (by omega);have h2:=iY (l:=[]++zeros (0-0)++B9 1 k) (a:=2) (w:=2) (v:=l) (by simp) (by omega) (by omega) (by omega);have h3:=iY (l:=[]++zeros (0-0)++B9 1 k++zeros 1++B9 2 l) (a:=4) (w:=4) (v:=s) (by simp) (by omega) (by omega) (by omega);have h4:=iY (l:=[]++zeros (0-0)++B9 1 k++zeros 1++B9 2 l++zeros 0++B9 4 s) (a:=8) (w:=2) (v:=p) (by simp) (by omega) (by omega) (by omega);simp only [E7a,E7v,zeros_length,Q5,E7R,Nat.zero_sub,Nat.reduceAdd,Nat.reduceSub] at h1 h2 h3 h4;simp only [E7F] at h1 h2 h3 h4;rw [h1,h2,h3,h4]
 congr 1
theorem D5x {g:B5} {c0:List Cell} {B:List UInt8} {z:List Cell} {q:Nat} (hB:B.length=256) (hz:z.length=32):∀ e i m:Nat,i+e=32->e<m ->
  B8w q m (pV (g.length+1) 0) (pV (g.length+2) 0) (pV (g.length+3) 0) (iV i) (g++[rT c0,rT z,rT (B4 (B.take i++zeros (32-i))),rT (B4 B)]) =
   A4 (.t [.a (B4 (B.take 32)),.c o0],g++[rT c0,rT (B4 (B.take 32)),rT (B4 (B.take 32)),rT (B4 B)])
 | e,i,0,_,hm=>by omega
 | 0,i,m+1,hi,hm=>by
  have e0:i=32:=by omega
  subst e0;have h1':¬ ((32:Nat):Int)<32:=by omega
  have hl:(B4 (B.take 32)).length=32:=by rw [A9,E7A];omega
  have e1:B4 (B.take 32++zeros (32-32))=B4 (B.take 32):=by simp [zeros]
  rw [A8H,e1];simp only [esc,esh,Nat.reduceAdd,Nat.reduceMul,Nat.reduceLT,h1',hl,hz]
 | e+1,i,m+1,hi,hm=>by
  have ih:=D5x (g:=g) (c0:=c0) (q:=q) hB hz e (i+1) m (by omega) (by omega);have h1':(i:Int)<32:=by omega
  have a1:J8 256 1 (pV (g.length+3) 0) (iV (i:Int))=A4 (pV (g.length+3) i):=by rw [J4 (by omega)];simp
  have a2:J8 32 1 (pV (g.length+2) 0) (iV (i:Int))=A4 (pV (g.length+2) i):=by rw [J4 (by omega)];simp
  have l1:(B4 B)[i]?=A4 (.i .u8 B[i].toNat):=by rw [aJ,E66 (by omega)];rfl
  have ho:i<(B4 (B.take i++zeros (32-i))).length:=by rw [A9,E7a,zeros_length,E7A];omega
  have es:(B4 (B.take i++zeros (32-i))).set i (.i .u8 B[i].toNat)=B4 (B.take (i+1)++zeros (32-(i+1))):=by
   rw [iI];refine congrArg B4 ?_;have h6:(B.take i).length=i:=by simp;omega
   rw [E7I _ _ (by omega),h6,E7R,E7n (by omega),E7c];refine congrArg (B.take i ++ ·) ?_;rw [show 32-i=32-(i+1)+1 by omega];unfold zeros;rw [E7z,E7T];rfl
  rw [A8H];simp only [esc,esh,Nat.reduceAdd,Nat.reduceMul,Nat.reduceLT,h1',a1,a2,l1,ho,es,D3 (show i+1<9223372036854775808 by omega)];exact ih
theorem D5y {g:B5} {k l s p:Int} {d:List Int} {c0 z:List Cell} {q:Nat} (hd:d.length=7) (hz:z.length=32) (hq:33<q):∀ e i m:Nat,i+e=7->e<m ->
  B8v q m (pV (g.length+1) 0) (pV (g.length+2) 0) (pV (g.length+3) 0) (.a (encI d)) (iV i) (g++[rT c0,rT z,rT (B4 (zeros 32)),rT (B4 (O7 256 (sT k l s p++sK (d.take i))))]) =
   A4 (.t [.a (B4 (gZ k l s p d)),.c o0],g++[rT c0,rT (B4 (gZ k l s p d)),rT (B4 (gZ k l s p d)),rT (B4 (O7 256 (sT k l s p++sK d)))])
 | e,i,0,_,hm=>by omega
 | 0,i,m+1,hi,hm=>by
  have e0:i=7:=by omega
  subst e0;have h1':¬ ((7:Nat):Int)<7:=by omega
  rw [E7i (by omega)];have hlen:(sT k l s p++sK d).length=24:=by rw [E7a,gG,lO,hd]
  have:=D5x (g:=g) (c0:=c0) (z:=z) (q:=q) (B:=O7 256 (sT k l s p++sK d)) (I1 (by omega)) hz 32 0 q (by omega) (by omega);have e1:(O7 256 (sT k l s p++sK d)).take 32=gZ k l s p d:=by
   unfold O7 gZ;rw [List.take_append,E7i (by omega),hlen];refine congrArg (sT k l s p++sK d ++ ·) ?_;unfold zeros;rw [List.take_replicate];rfl
  rw [e1] at this;simp only [E76,E7m,Nat.sub_zero] at this;rw [A8G];simp only [esc,h1'];exact this
 | e+1,i,m+1,hi,hm=>by
  have ih:=D5y (g:=g) (k:=k) (l:=l) (s:=s) (p:=p) (c0:=c0) hd hz hq e (i+1) m (by omega) (by omega);have h1':(i:Int)<7:=by omega
  have hx:A4c 7 (.a (encI d)) (iV (i:Int))=A4 (iV d[i]):=by
   rw [B8k (by omega),G8,E66 (by omega)];rfl
  have hlen:(sT k l s p++sK (d.take i)).length=10+2*i:=by rw [E7a,gG,lO,E7A];omega
  have hL:(B4 (O7 256 (sT k l s p++sK (d.take i)))).length=256:=by rw [A9,I1 (by omega)]
  have e2:IntKind.wrap .i64 (2*(i:Int))=((2*i:Nat):Int):=by rw [wrap_i64 (by omega) (by omega)];omega
  have e3:IntKind.wrap .i64 (10+((2*i:Nat):Int))=((10+2*i:Nat):Int):=by rw [wrap_i64 (by omega) (by omega)];omega
  have hw:=Y6 (l:=O7 256 (sT k l s p++sK (d.take i))) (h:=g++[rT c0,rT z,rT (B4 (zeros 32)),rT (B4 (O7 256 (sT k l s p++sK (d.take i))))]) (I1 (by omega)) (a:=((10+2*i:Nat):Int)) (w:=2) (v:=d[i]);have e4:=iY (l:=sT k l s p++sK (d.take i)) (a:=10+2*i) (w:=2) (v:=d[i]) (by omega) (by omega) (by omega) (by omega);rw [show ((2:Nat):Int)=2 from rfl,hlen,E7R,show zeros 0=[] from rfl,E7w,E7c,<-C08,<-E7n (by omega)] at e4;rw [e4] at hw;have hL':(B4 (O7 256 (sT k l s p++sK (d.take (i+1))))).length=256:=by
   rw [A9,I1 (by rw [E7a,gG,lO,E7A];omega)]
  rw [A8G];simp only [esc,esh,Nat.reduceAdd,Nat.reduceMul,Nat.reduceLT,h1',hx,hL,e2,e3,hw,hL',D3 (show i+1<9223372036854775808 by omega)];exact ih
theorem B8u {k l s p:Int} {d:List Int} {h:B5} (hd:d.length=7) :
  B0q [.a (F8 k l s p d)] h=A4 (.t [.a (B4 (bif A1P k l s p d then gZ k l s p d else zeros 32)),.c (.i .i64 (bif A1P k l s p d then 0 else 1))],h):=by
 have hlen:(F8 k l s p d).length=11:=by simp [B7,hd]
 have key:∀ N,33<N->∀ g,∃ g',A9A N [.a (F8 k l s p d)] g=A4 (.t [.a (B4 (bif A1P k l s p d then gZ k l s p d else zeros 32)),.c (.i .i64 (bif A1P k l s p d then 0 else 1))],g'):=by
  intro N hN g;have hz:(B4 (zeros 32)).length=32:=by rw [A9];exact zeros_length
  have hz2:(B4 (zeros 256)).length=256:=by rw [A9];exact zeros_length
  rw [C5Q,I7,I7];cases c:A1P k l s p d with
  | false =>
   generalize zeros 32=z at *;generalize zeros 256=y at *;exact ⟨_,by simp only [esc,esh,Nat.reduceAdd,Nat.reduceMul,Nat.reduceLT,hlen,B1H hd,c,hz,Int.reduceEq]<;>rfl⟩
  | true =>
   have:=D5y (g:=g) (k:=k) (l:=l) (s:=s) (p:=p) (c0:=F8 k l s p d) (z:=B4 (zeros 32)) (q:=N) hd hz hN 7 0 N (by omega) (by omega);simp only [E76,show sK []=[] from rfl,E7w] at this;have w1:=λh=>Y6 (h:=h) (l:=zeros 256) zeros_length (a:=0) (w:=1) (v:=k)
   have w2:=λh=>Y6 (h:=h) (l:=iQ (zeros 256) 0 1 k) (T6 zeros_length) (a:=2) (w:=2) (v:=l)
   have w3:=λh=>Y6 (h:=h) (l:=iQ (iQ (zeros 256) 0 1 k) 2 2 l) (T6 (T6 zeros_length)) (a:=4) (w:=4) (v:=s)
   have w4:=λh=>Y6 (h:=h) (l:=iQ (iQ (iQ (zeros 256) 0 1 k) 2 2 l) 4 4 s) (T6 (T6 (T6 zeros_length))) (a:=8) (w:=2) (v:=p)
   have l1:(B4 (iQ (zeros 256) 0 1 k)).length=256:=by rw [A9,T6 zeros_length]
   have l2:(B4 (iQ (iQ (zeros 256) 0 1 k) 2 2 l)).length=256:=by rw [A9,T6 (T6 zeros_length)]
   have l3:(B4 (iQ (iQ (iQ (zeros 256) 0 1 k) 2 2 l) 4 4 s)).length=256:=by rw [A9,T6 (T6 (T6 zeros_length))]
   have l4:(B4 (O7 256 (sT k l s p))).length=256:=by rw [A9,I1 (by rw [gG];omega)]
   simp only [D8B] at w4;generalize zeros 32=z at *;generalize zeros 256=y at *;exact ⟨_,by simp only [esc,esh,Nat.reduceAdd,Nat.reduceMul,Nat.reduceLT,hlen,B1H hd,c,hz,hz2,w1,w2,w3,w4,l1,l2,l3,l4,nD hd];exact this⟩
 obtain ⟨g',e⟩:=key (h.length+34) (by omega) (ro h);exact C0q e (by simp)
def qH (b:List UInt8):Int:=fieldN b 0 1
def sH (b:List UInt8):Int:=fieldN b 2 2
def sJ (b:List UInt8):Int:=fieldN b 4 4
def sI (b:List UInt8):Int:=fieldN b 8 2
def M9 (b:List UInt8):List Int:=(E7C 7).map λj=>fieldN b (10+2*j) 2
theorem F0 {b:List UInt8}:(M9 b).length=7:=by simp [M9]
theorem B2x {b:List UInt8} {i:Nat} (hi:i<7):(M9 b)[i]?=A4 (fieldN b (10+2*i) 2):=by simp [M9,hi]
theorem B8s {k l s p x:Int} {d:List Int} {i:Nat}:(F8 k l s p d).set (4+i) (.i .i64 x)=F8 k l s p (d.set i x):=by
 rw [show 4+i=i+1+1+1+1 by omega];simp only [F8,E7U,aK]
theorem A0E {D:List Int} (hD:D.length=7) {i:Nat} (hi:i<7):(D.take i++zI (7-i)).set i D[i]=D.take (i+1)++zI (7-(i+1)):=by
 have h6:(D.take i).length=i:=by simp;omega
 rw [E7I _ _ (by omega),h6,E7R,E7n (by omega),E7c];refine congrArg (D.take i ++ ·) ?_;rw [show 7-i=7-(i+1)+1 by omega];unfold zI;rw [E7z,E7T];rfl
theorem D1J {g:B5} {b:List UInt8} {k l s p:Int} {c0 z:List Cell} {q:Nat} (hb:b.length=32) (hz:z.length=11):∀ e i m:Nat,i+e=6->e<m ->
  B8t q m (pV (g.length+1) 0) (pV (g.length+2) 0) (pV (g.length+3) 0) (iV i) (g++[rT c0,rT z,rT (B4 (O7 256 b)),rT (F8 k l s p ((M9 b).take i++zI (7-i)))]) =
   A4 (.a (F8 k l s p (M9 b)),g++[rT c0,rT (F8 k l s p (M9 b)),rT (B4 (O7 256 b)),rT (F8 k l s p (M9 b))])
 | e,i,0,_,hm=>by omega
 | 0,i,m+1,hi,hm=>by
  have e0:i=6:=by omega
  subst e0;have h1':¬ ((6:Nat):Int)<6:=by omega
  have hX:(B4 (O7 256 b)).length=256:=by rw [A9,I1 (by omega)]
  have ha:=λh=>nG (h:=h) (l:=O7 256 b) (I1 (by omega)) (a:=22) (w:=2)
  have e1:=D59 (b:=b) (a:=22) (w:=2) (by omega) (by omega) (by omega) (by omega);simp only [E7F] at e1;simp only [e1] at ha;have hl0:(F8 k l s p ((M9 b).take 6++zI (7-6))).length=11:=by simp [B7,F0,I8]
  have ho:(encI ((M9 b).take 6++zI (7-6))).length=7:=by simp [B7,F0,I8]
  have hg6:(M9 b)[6]'(by rw [F0];omega)=fieldN b 22 2:=by
   have:=B2x (b:=b) (i:=6) (by omega);rw [E66 (by rw [F0];omega)] at this;exact Option.some.inj this
  have es:(F8 k l s p ((M9 b).take 6++zI (7-6))).set 10 (.i .i64 (fieldN b 22 2))=F8 k l s p (M9 b):=by
   have h1:=B8s (k:=k) (l:=l) (s:=s) (p:=p) (x:=fieldN b 22 2) (d:=(M9 b).take 6++zI (7-6)) (i:=6);rw [show 4+6=10 from rfl] at h1;rw [h1,<-hg6,A0E F0 (by omega)];have:(M9 b).take (6+1)++zI (7-(6+1))=M9 b:=by rw [E7i (by rw [F0];omega)];simp [zI]
   rw [this]
  have hl1:(F8 k l s p (M9 b)).length=11:=by simp [B7,F0]
  rw [A8F];simp only [esc,esh,Nat.reduceAdd,Nat.reduceMul,Nat.reduceLT,h1',hX,ha,ho,es,hl1,hz,B7,F0]
 | e+1,i,m+1,hi,hm=>by
  have ih:=D1J (g:=g) (k:=k) (l:=l) (s:=s) (p:=p) (c0:=c0) (q:=q) hb hz e (i+1) m (by omega) (by omega);have h1':(i:Int)<6:=by omega
  have hX:(B4 (O7 256 b)).length=256:=by rw [A9,I1 (by omega)]
  have e2:IntKind.wrap .i64 (2*(i:Int))=((2*i:Nat):Int):=by rw [wrap_i64 (by omega) (by omega)];omega
  have e3:IntKind.wrap .i64 (10+((2*i:Nat):Int))=((10+2*i:Nat):Int):=by rw [wrap_i64 (by omega) (by omega)];omega
  have ha:=λh=>nG (h:=h) (l:=O7 256 b) (I1 (by omega)) (a:=((10+2*i:Nat):Int)) (w:=2)
  have e1:=D59 (b:=b) (a:=10+2*i) (w:=2) (by omega) (by omega) (by omega) (by omega);rw [show ((2:Nat):Int)=2 from rfl] at e1;simp only [e1] at ha;have a1:J8 6 1 (pV (g.length+3) 4) (iV (i:Int))=A4 (pV (g.length+3) (4+i)):=by rw [J4 (by omega)];simp
  have ho:(encI ((M9 b).take i++zI (7-i))).length=7:=by simp [B7,F0,I8];omega
  have ho2:4+i<11:=by omega
  have hgi:(M9 b)[i]'(by rw [F0];omega)=fieldN b (10+2*i) 2:=by
   have:=B2x (b:=b) (i:=i) (by omega);rw [E66 (by rw [F0];omega)] at this;exact Option.some.inj this
  have es:(F8 k l s p ((M9 b).take i++zI (7-i))).set (4+i) (.i .i64 (fieldN b (10+2*i) 2))=F8 k l s p ((M9 b).take (i+1)++zI (7-(i+1))):=by
   rw [B8s,<-hgi,A0E F0 (by omega)]
  rw [A8F];simp only [esc,esh,Nat.reduceAdd,Nat.reduceMul,Nat.reduceLT,h1',hX,e2,e3,ha,a1,ho,ho2,es,D3 (show i+1<9223372036854775808 by omega)];exact ih
theorem A7E {b:List UInt8} {h:B5} (hb:b.length=32):B0o [.a (B4 b)] h=A4 (.a (F8 (qH b) (sH b) (sJ b) (sI b) (M9 b)),h):=by
 have key:∀ N,7<N->∀ g,∃ g',A9z N [.a (B4 b)] g=A4 (.a (F8 (qH b) (sH b) (sJ b) (sI b) (M9 b)),g'):=by
  intro N hN g;have hl:(B4 b).length=32:=by rw [A9,hb]
  have hX:(B4 (O7 256 b)).length=256:=by rw [A9,I1 (by omega)]
  have hz:(E68 256 (Cell.i .u8 0)).length=256:=E7B;have z11:[o0,o0,o0,o0,o0,o0,o0,o0,o0,o0,o0]=F8 0 0 0 0 (zI 7):=rfl;have l11:(F8 0 0 0 0 (zI 7)).length=11:=rfl;have ho:=B2E (h:=g++[rT (B4 b),rT (F8 0 0 0 0 (zI 7))]) (v:=sV g.length 0 32 1) (nv:=32) (data:=b) (Has.tr (by simp) (by omega) (F9 _)) (by omega);rw [C8v (by omega)] at ho;have at_:∀ (a w:Nat),a+w<=32->1<=w->w<=4->∀ h,B7A [.a (B4 (O7 256 b)),iV a,iV w] h=A4 (iV (fieldN b a w),h):=λa w h1 h2 h3 h=>by
   rw [nG (I1 (by omega)),D59 (by omega) (by omega) h2 h3]
  have a1:=at_ 0 1 (by omega) (by omega) (by omega);have a2:=at_ 2 2 (by omega) (by omega) (by omega);have a3:=at_ 4 4 (by omega) (by omega) (by omega);have a4:=at_ 8 2 (by omega) (by omega) (by omega);simp only [E7F] at a1 a2 a3 a4;have ef:E4 (F8 0 0 0 0 (zI 7)) [(0,1,iV (fieldN b 0 1)),(1,1,iV (fieldN b 2 2)),(2,1,iV (fieldN b 4 4)),(3,1,iV (fieldN b 8 2))]=A4 (F8 (qH b) (sH b) (sJ b) (sI b) (zI 7)):=rfl;have lf:(F8 (qH b) (sH b) (sJ b) (sI b) (zI 7)).length=11:=rfl;have:=D1J (g:=g) (b:=b) (k:=qH b) (l:=sH b) (s:=sJ b) (p:=sI b) (c0:=B4 b) (z:=F8 0 0 0 0 (zI 7)) (q:=N) hb l11 6 0 N (by omega) (by omega);simp only [E76,E7m,Nat.sub_zero] at this;rw [C5P,z11];generalize E68 256 (Cell.i .u8 0)=z at *;generalize F8 0 0 0 0 (zI 7)=y at *;exact ⟨_,by simp only [esc,esh,Nat.reduceAdd,Nat.reduceMul,Nat.reduceLT,hl,ho,hz,hX,a1,a2,a3,a4,ef,l11,lf];exact this⟩
 obtain ⟨g',e⟩:=key (h.length+8) (by omega) (ro h);exact C0p e (by simp)
def gU (b:List UInt8):Bool:=A1P (qH b) (sH b) (sJ b) (sI b) (M9 b)&&decide (gZ (qH b) (sH b) (sJ b) (sI b) (M9 b)=b)
def dT (b:List UInt8):List Cell:=bif gU b then F8 (qH b) (sH b) (sJ b) (sI b) (M9 b) else F8 0 0 0 0 (zI 7)
theorem wO {b:List UInt8}:(dT b).length=11:=by
 unfold dT;cases gU b<;>simp [B7,F0,I8]
theorem A0v {b:List UInt8}:N8 (dT b)=A5:=by
 unfold dT;cases gU b<;>simp
theorem C75 {b:List UInt8} {h:B5} (hb:b.length=32):A31 [.a (B4 b)] h=A4 (.t [.a (dT b),.c (.b (gU b))],h):=by
 have key:∀ g,∃ g',A3C 0 [.a (B4 b)] g=A4 (.t [.a (dT b),.c (.b (gU b))],g'):=by
  intro g;have hl:(B4 b).length=32:=by rw [A9,hb]
  have hI:(F8 (qH b) (sH b) (sJ b) (sI b) (M9 b)).length=11:=by simp [B7,F0]
  have z11:[o0,o0,o0,o0,o0,o0,o0,o0,o0,o0,o0]=F8 0 0 0 0 (zI 7):=rfl;have l11:(F8 0 0 0 0 (zI 7)).length=11:=rfl;have af:=A48;rw [z11] at af;have hz:(E68 32 (Cell.i .u8 0)).length=32:=E7B;have hp:=λh=>B8u (h:=h) (k:=qH b) (l:=sH b) (s:=sJ b) (p:=sI b) (d:=M9 b) F0
  have hB:(B4 (gZ (qH b) (sH b) (sJ b) (sI b) (M9 b))).length=32:=by rw [A9,lM F0]
  have hZ:(B4 (zeros 32)).length=32:=by rw [A9];exact zeros_length
  have hq:=D4c (l:=gZ (qH b) (sH b) (sJ b) (sI b) (M9 b)) (m:=b) (n:=32) (lM F0) hb;rw [B9A,z11];unfold dT gU;generalize E68 32 (Cell.i .u8 0)=z at *;generalize F8 0 0 0 0 (zI 7)=y at *;cases c:A1P (qH b) (sH b) (sJ b) (sI b) (M9 b) with
  | false =>
   simp only [c,cond_false] at hp;exact ⟨_,by simp only [esc,esh,Nat.reduceAdd,Nat.reduceMul,Nat.reduceLT,hl,A7E hb,hI,l11,hp,hz,hZ,Int.reduceEq,af,E7f]<;>rfl⟩
  | true =>
   simp only [c,cond_true] at hp;cases c2:decide (gZ (qH b) (sH b) (sJ b) (sI b) (M9 b)=b) with
   | false =>
    rw [c2] at hq;exact ⟨_,by simp only [esc,esh,Nat.reduceAdd,Nat.reduceMul,Nat.reduceLT,hl,A7E hb,hI,l11,hp,hz,hB,hq,af,E75]<;>rfl⟩
   | true =>
    rw [c2] at hq;exact ⟨_,by simp only [esc,esh,Nat.reduceAdd,Nat.reduceMul,Nat.reduceLT,hl,A7E hb,hI,l11,hp,hz,hB,hq,Bool.and_true]<;>rfl⟩
 obtain ⟨g',e⟩:=key (ro h);exact B5s e (by simp [A0v])
noncomputable section
variable (n m m2:Nat) (a0 a1 a2 x1 x2 x3 x4 x5 x6 x7 x8 x9 x10 x11 x12 x15 x16 x17 x20 x21:Val) (h:B5)
def vY:FD A8:=⟨px 0X138211688068861c044c52121062ec2112,[],[.min (.t 4) (.v (.c (.i .i64 5))),.max (.v (.c o0)) (.t 5)],[.tmp 2],[]⟩
def A3y:=vY.R
def B9w:=mR A3y vY (tT []) n [a0] h
def B3h:=vY.K Tryz.func168
def A3X:=vY.S
theorem bK:SOk A8 168 A3X:=B3h.sok
theorem B5o:F6 A3y A3X:=B3h.flat
def A0e:FD A8:=⟨px 0X14821361e2a87ffffd6191b7f01b3601647c0072123211012,[.c (.b A6)],[],[.tmp 2],[]⟩
def B62:=A0e.R
def C3D:=mR B62 A0e (tT []) n [a0] h
def B6J:=A0e.K Tryz.func169
def A63:=A0e.S
theorem A8e:SOk A8 169 A63:=B6J.sok
theorem B7u:F6 B62 A63:=B6J.flat
def pH:FD A8:=⟨px 0X11312184881de284884c393322229c2d157a07c2182284881de6191a2e421ac380628907c61967c2c0284883d39718015312184881de01c3e8332222462bc6131ac3839133b2d2c6542722d2c6542631c801bc511e2a484981a042d2c654262152d2c4243070242d2c4243289617c12e2d2c42522d2c42406051064838142b4d32d2c4242422319824881de11c142df65291e421ac61c044c6111ac64ac1f131b127113104194101d48b7219421330153125a4881de01c3e8332222461e37c16101ac4493861c0474d40191b21332123101c2d862ec32122,[.c (.i .u8 105),.c (.i .u8 100),.c (.i .u8 120),.c (.i .u8 33)],[],[.cellN 2 256,.tmp 3],[cal bK,cal A2J,cal wM,cal A8e]⟩
def A9x:=pH.R
def B8q:AtH:=pH.lj 0 n [m] [x2,x4,x20,x21]
def C2l:=tT [⟨2,4,B8q⟩]
def C5O:=mR A9x pH C2l n [a0] h
def A8E:=mL pH C2l 0 n [m] [x2,x4,x20,x21] h
def C1N:=pH.K Tryz.func103
def B0m:=pH.S
theorem B0n:SOk A8 103 B0m:=C1N.sok
theorem C0k:F6 A9x B0m:=C1N.flat
def A0f:FD A8:=⟨px 0X13821651b7c64c86101ac4493852121062ec2112,[],[],[.tmp 2],[cal bK]⟩
def A6v:=A0f.R
def C3E:=mR A6v A0f (tT []) n [a0] h
def B6K:=A0f.K Tryz.func163
def A64:=A0f.S
theorem cU:SOk A8 163 A64:=B6K.sok
theorem B7v:F6 A6v A64:=B6K.flat
def fZ:FD A8:=⟨px 0X1131218491de28496939332222d81815607c48591318017931218491de01f3e833222241637c61c1a614828c1284c485b155f1842423518423327024289617c484f12581842421842331842316252b81816121ac28494d3931842324223017931218491de01f3e83322224632a2a807e68b44887e3b384887e3b601637c3c3d174b423242231e801dc24881de1c62d912a6801e3b691d83816111ac284939391876421521bc1c155e07c2181a21fa3e614828c1284c1962a301ac628907c61967c6a04488385a1f1191878511a021c542152151c42143070241c42143289617c11d1c421521c4214060511c111c42142421335c2491de1f42d961011f3e85296301ac44881939542132101f2d862ec32122,[.c (.b A5)],[.eqA A5 (E68 256 (.i .u8)) (.t 32) (.t 33)],[.cellN 2 33,.tmp 3],[cal xK,cal B0n,cal cU]⟩
def A9w:=fZ.R
def B8n:AtH:=fZ.lj 0 n [m] [x1,x2,x4,x12]
def B8o:AtH:=fZ.lj 1 n [m] [x2,x4,x8]
def B0M:=tT [⟨2,4,B8n⟩,⟨2,3,B8o⟩]
def C5N:=mR A9w fZ B0M n [a0] h
def A8A:=mL fZ B0M 0 n [m] [x1,x2,x4,x12] h
def A8B:=mL fZ B0M 1 n [m] [x2,x4,x8] h
def C1M:=fZ.K Tryz.func99
def B0l:=fZ.S
theorem C6y:SOk A8 99 B0l:=C1M.sok
theorem C0i:F6 A9w B0l:=C1M.flat
def iT:FD A8:=⟨px 0X1741141219c7156a02b7d2180134114122462e27c161c1a614828c16e4c4061c1a614828c14e4c2e1a1180192a7621534c511a02765215215762143070247621431a617c11876215276214060510461276214203341022ed22122,[.c (.b A6),.c (.b A5)],[],[.tmp 4],[]⟩
def A3z:=iT.R
def B1E:AtH:=iT.lj 0 n [m] [x1,x2,x6,x7]
def B3E:=tT [⟨2,4,B1E⟩]
def B9x:=mR A3z iT B3E n [a0,a1] h
def A25:=mL iT B3E 0 n [m] [x1,x2,x6,x7] h
def B3i:=iT.K Tryz.func170
def A3Y:=iT.S
theorem A43:SOk A8 170 A3Y:=B3i.sok
theorem B5p:F6 A3z A3Y:=B3i.flat
def eV:FD A8:=⟨px 0X12bc61484f1261229819161a07c3c04c4814182b818161e13cc61011113fc4c0484b151815191873430702461e17c6101ac1c49384c3c143f1918735219187343191873406051dc19161a187c3c04391419187342181313b8118731421c871651b7c64c8168806886111ac1c4938182a1187313201163b9161224632e2a861e4387f610381af5e49383b4383601617c41a118293214232133163b9032ed232132,[.c (.b A5)],[.min (.t 18) (.t 20),.max (.v (.c o0)) (.t 21)],[.tmp 6],[cal cU,cal bK]⟩
def A07:=eV.R
def A8D:AtH:=eV.lj 0 n [m] [x3,x7,x8,x9]
def B0N:=tT [⟨2,4,A8D⟩]
def B61:=mR A07 eV B0N n [a0,a1,a2] h
def B51:=mL eV B0N 0 n [m] [x3,x7,x8,x9] h
def A9e:=eV.K Tryz.func209
def A1n:=eV.S
theorem A2H:SOk A8 209 A1n:=A9e.sok
theorem B5m:oP A07 A1n:=A9e.out
def iU:FD A8:=⟨px 0X176116121ac1b155a02d7d2180136116122461a37c18061c1a614828c16e4c3e1f162c1b1a1932627818161c1a2a119831b1a19183262151b1a193253070241b1a1932531a617c11c1b1a1932621b1a1932506051061c8419131b1a19325203361032ed232132,[.c (.b A6),.c (.b A5)],[],[.tmp 6],[]⟩
def A3A:=iU.R
def B1F:AtH:=iU.lj 0 n [m] [x2,x3,x9,x10,x11]
def B3F:=tT [⟨2,5,B1F⟩]
def B9y:=mR A3A iU B3F n [a0,a1,a2] h
def A26:=mL iU B3F 0 n [m] [x2,x3,x9,x10,x11] h
def B3j:=iU.K Tryz.func241
def A3Z:=iU.S
theorem C0m:SOk A8 241 A3Z:=B3j.sok
theorem B5q:F6 A3A A3Z:=B3j.flat
def mS:FD A8:=⟨px 0X12bc416111ac18494e3934122ac28151ae04d7d218012a8412c0241224765e2a862e4e33691af26691f1a61486928f118694f469361a1e32691af2c69346931849693b1849693b601637c61c1a614828c1184c42b11f0194b281f52163198511a02281f5215215281f214307024281f21431a617c129281f2152281f2140605106111ac6a491e393281f214221301141141224632e2a861e4287f610281af4a49283b4283601617c461181d21322123141022ed22122,[.c (.b A5),.c (.b A6)],[],[.tmp 4],[cal cU,cal bK,cal A2H,cal C0m]⟩
def A6u:=mS.R
def B38:AtH:=mS.lj 0 n [m] [x1,x2,x15,x16]
def B7N:=tT [⟨2,4,B38⟩]
def C3C:=mR A6u mS B7N n [a0,a1] h
def A5F:=mL mS B7N 0 n [m] [x1,x2,x15,x16] h
def B6I:=mS.K Tryz.func210
def A62:=mS.S
theorem C4j:SOk A8 210 A62:=B6I.sok
theorem B7t:F6 A6u A62:=B6I.flat
def bB:FD A8:=⟨px 0X11ac412c2d124121a819155e02c7d218019c515607c6e03182461a27c4061c1a614828c15e4c3a1c16291918521625c611a021918652162151918521511a070241918521531a617c11a191852162191852150605106101ac2e49739319185215251310152132141022ed22122,[],[],[.tmp 4],[cal cU]⟩
def A3x:=bB.R
def B1C:AtH:=bB.lj 0 n [m] [x1,x2,x5,x8,x9]
def C73:AtH:=bB.lj 1 n [m] [x1,x2,x5,x8,x9]
def A4a:=tT [⟨2,5,B1C⟩,⟨2,5,C73⟩]
def B9v:=mR A3x bB A4a n [a0,a1] h
def A24:=mL bB A4a 0 n [m] [x1,x2,x5,x8,x9] h
def A23:=mJ bB A4a 1 n [m] [x1,x2,x5,x8,x9] h
def B3g:=bB.K Tryz.func211
def A3W:=bB.S
theorem C0l:SOk A8 211 A3W:=B3g.sok
theorem B5n:F6 A3x A3W:=B3g.flat
def fY:FD A8:=⟨px 0X1218491de1c496c39221239c291529a07c21801a21fa1e614828c11c4c2c028051824636a2a862a218c7f261a2618c1af2c18c344918c3b618c1cb62a2e3518c1af61a2418c1af2818c344918c3b2818c344918c3b6061a231ac280449381e0195e29285432118301724632a2a866c2bf6126c1af2c6c3601627c2c38173e292854321182292854321731bc5161c1a614828c144c282c152928543217219c411a022928432162152928321511a070242928321531a617c12a292832162292832150605106111ac4491f3932928321523223782491de1f32d961011f3e861c044c5321320124e491de01f3e822122461e37c16101ac4493861c0464d40191a213321231f2d862ec22122,[.c (.b A5)],[],[.cellN 2 33],[cal bK,cal cU,cal A8e,cal A43,cal C4j,cal A2H,cal C0l]⟩
def A9v:=fY.R
def A0y:AtH:=fY.lj 0 n [m] [x1,x2,x3,x16,x17]
def D3b:AtH:=fY.lj 1 n [m] [x1,x2,x3,x16,x17]
def B0L:=tT [⟨2,5,A0y⟩,⟨2,5,D3b⟩]
def C5M:=mR A9v fY B0L n [a0] h
def A8z:=mL fY B0L 0 n [m] [x1,x2,x3,x16,x17] h
def iL:=mJ fY B0L 1 n [m] [x1,x2,x3,x16,x17] h
def C1L:=fY.K Tryz.func164
def B0k:=fY.S
theorem C6x:SOk A8 164 B0k:=C1L.sok
theorem C0h:F6 A9v B0k:=C1L.flat
def V9:FD A8:=⟨px 0X11e8211c3c122121dc7153c03b7d21801d83163a13cc61011113fc61c1a614828c144c2801c0181824362a2a861a213f1af6e3f34493f3b601637c61c1a614828c144c3a1a11a2b76431624c411a027643152157631411a070247631431a617c118763152763140605106101ac449539376314231313b81312213b862ec2112,[.c (.b A6)],[],[.tmp 2],[cal cU,cal A43]⟩
def yP:=V9.R
def vK:AtH:=V9.lj 0 n [m] [x1,x3,x6,x7]
def C07:AtH:=V9.lj 1 n [m] [x1,x3,x6,x7]
def yV:=tT [⟨2,4,vK⟩,⟨2,4,C07⟩]
def B4J:=mR yP V9 yV n [a0] h
def zR:=mL V9 yV 0 n [m] [x1,x3,x6,x7] h
def nW:=mJ V9 yV 1 n [m] [x1,x3,x6,x7] h
def A72:=V9.K Tryz.func104
def yT:=V9.S
theorem oT:SOk A8 104 yT:=A72.sok
theorem B2Z:oP yP yT:=A72.out
def vX:FD A8:=⟨px 0X1484161e211ac6101ac2a4938405412141022ed22122,[],[],[.tmp 4],[cal bK,cal D2J]⟩
def A3w:=vX.R
def B9u:=mR A3w vX (tT []) n [a0,a1] h
def B3f:=vX.K Tryz.func148
def A3V:=vX.S
theorem C0j:SOk A8 148 A3V:=B3f.sok
theorem B5l:F6 A3w A3V:=B3f.flat
end
theorem C8H {h:B5} {id n sz:Nat} {cs ys:List Cell} (hr:rd h id=rT cs) (hl:cs.length=n*sz) (hy:ys.length=sz) (hsz:0<sz) (hn:n+1<=1073741824) :
  ∃ h',jZ (h++[rT ys]) sz (sV id 0 n sz) (sV h.length 0 1 sz)=A4 (sV (h.length+1) 0 (n+1) sz,h')/\rd h' (h.length+1)=rT (cs++ys)/\(∀ i r,i≠id->rd h i=A4 r->rd h' i=A4 r)/\(∀ b,b<=id->b<=h.length->Low b h h'):=by
 have V5:=C8 hr;refine ⟨(h++[rT ys]).set id A7++[rT (cs++ys)],?_,?_,λi r hi hir=>?_,λb hb hb2=>(((Low.refl hb2).new _).set hb A7).new _⟩
 ·rw [kN (h:=h++[rT ys]) (m:=1) (C5 hr) hl T9 (by omega) rfl hsz hn];simp
 ·have:=T9 (h:=(h++[rT ys]).set id A7) (r:=Row.mk (cs++ys) A5);rw [E7D] at this;simpa using this
 ·refine C5 ?_;rw [B6 (Ne.symm hi)];exact C5 hir
theorem E1Y {h:B5} {jd m sz:Nat} {ys:List Cell} (hy:rd h jd=rT ys) (hyl:ys.length=m*sz) (hsz:0<sz) (hn:m<=1073741824) :
  jZ h sz (.c .ns) (sV jd 0 m sz)=A4 (sV h.length 0 m sz,h++[rT ys]):=by
 have h2:P8 h sz (sV jd 0 m sz)=A4 ys:=by
  simp only [P8,if_true,iE,hy,E7h,E7p,E7t];rw [<-hyl,List.take_length,if_pos ⟨E7b _,rfl⟩]
 have e1:ys.length/sz=m:=by rw [hyl];exact Nat.mul_div_cancel _ hsz
 simp only [jZ,h2,E7h];rw [e1,if_pos hn]
def W1 (d:Int):Nat:=(max 0 (min d 5)).toNat
theorem sC (d:Int):W1 d<=5:=by unfold W1;omega
theorem B2s {d:Int} (h0:0<=d) (h5:d<=5):((W1 d:Nat):Int)=d:=by unfold W1;omega
theorem D91 (d:Int):(max 0 (min d 5))=((W1 d:Nat):Int):=by unfold W1;omega
def D1 (d:Int):Nat:=2 ^ W1 d
theorem C8G {n:Nat} (h:n<=5):2 ^ n<=32:=by
 have:=Nat.pow_le_pow_right (n:=2) (by omega) h;simpa using this
theorem O6 (d:Int):D1 d<=32:=C8G (sC d)
theorem B2e:[o0]++E68 32 o0=encI (0::zI 32):=by
 simp [encI,zI]
def toX (t:List Int) (i:Nat):Int:=t.getD i 0
theorem E25 {t:List Int} {i:Nat} (h:i<t.length):t[i]?=A4 (toX t i):=by
 unfold toX;rw [E7e,E66 h];rfl
def vF (n:Int):Bool:=decide (0<=n)&&decide (n<=65535)
theorem B39 {n:Int} {h:B5}:A63 [iV n] h=A4 (bV (vF n),h):=by
 refine B7u (n:=0) (h2:=ro h) ?_ rfl;rw [C3D];unfold vF;by_cases c:0<=n
 ·simp only [esc,c,E7j]
 ·simp only [esc,c,E7f]
theorem E3 {d:Int} {t:List Int} (ht:t.length=32):(encI (d::t)).length=33:=by rw [B7];simp [ht]
theorem C7B {d:Int} {t:List Int} {i:Nat} (ht:t.length=32) (hi:i<32):(encI (d::t))[1+i]?=A4 (.i .i64 (toX t i)):=by
 rw [G8,Nat.add_comm 1 i,E7S,E25 (by omega)];rfl
theorem B73 {d:Int} {t:List Int} {i:Nat} {v:Int}:(encI (d::t)).set (1+i) (.i .i64 v)=encI (d::t.set i v):=by
 rw [aK,Nat.add_comm 1 i,E7U]
theorem ldX {h:B5} {id:Nat} {d:Int} {t:List Int} {rw:Bool} (hr:rd h id=A4 ⟨encI (d::t),rw⟩) (ht:t.length=32) {i:Nat} (hi:i<32):B8 h (pV id (1+i))=A4 (iV (toX t i)) :=
 C4 hr (C7B ht hi) (by simp [Cell.isX])
theorem adX {id i:Nat} (hi:i<32):J8 32 1 (pV id (0+1)) (iV (i:Int))=A4 (pV id (1+i)):=by rw [J4 hi];simp
theorem bW {d:Int} {t:List Int} {h:B5}:A3X [.a (encI (d::t))] h=A4 (iV (W1 d:Nat),h):=by
 have key:∀ g,∃ g',A3y 0 [.a (encI (d::t))] g=A4 (iV (W1 d:Nat),g'):=by
  intro g;have e1:B7S (iV d) (iV 5)=A4 (iV (min d 5)):=by
   simp only [B7S];by_cases h:(5:Int)<d
   ·rw [if_pos h,Int.min_eq_right (by omega)]
   ·rw [if_neg h,Int.min_eq_left (by omega)]
  have e2:C64 (iV 0) (iV (min d 5))=A4 (iV (W1 d:Nat)):=by
   rw [<-D91];simp only [C64];by_cases h:(min d 5:Int) > 0
   ·rw [if_pos h,Int.max_eq_right (by omega)]
   ·rw [if_neg h,Int.max_eq_left (by omega)]
  have e3:B8 (g++[rT (encI (d::t))]) (pV g.length 0)=A4 (iV d):=C4 (T9) rfl rfl;rw [B9w];generalize hz:encI (d::t)=z at *;exact ⟨_,by simp only [esc,e3,e1,e2]<;>rfl⟩
 obtain ⟨g',e⟩:=key (ro h);exact B5o e rfl
theorem D72 {k:Nat} (hk:k<=5):O4 .shl (iV 1) (.c (.i .u64 (k:Int)))=A4 (iV ((2 ^ k:Nat):Int)):=by
 rw [B7R (by omega)];have h1:Nat.min (k:Int).toNat (IntKind.i64).bits=k:=by
  have:(IntKind.i64).bits=64:=rfl;rw [this,E7r];exact E73 (by omega)
 have h2:=C8G hk;rw [h1,Int.one_mul];have e:(2:Int) ^ k=((2 ^ k:Nat):Int):=by simp
 rw [e];generalize 2 ^ k=y at h2 ⊢;rw [wrap_i64 (by omega) (by omega)]
theorem C1o {k:Nat} (hk:k<=64):IntKind.wrap .u64 (k:Int)=(k:Int):=wrap_u64 (by omega) (by omega)
theorem dV {d:Int} {t:List Int} {h:B5} (ht:t.length=32):A64 [.a (encI (d::t))] h=A4 (iV (D1 d:Nat),h):=by
 have key:∀ g,∃ g',A6v 0 [.a (encI (d::t))] g=A4 (iV (D1 d:Nat),g'):=by
  intro g;have hl:=E3 (d:=d) ht;have hd:=λh=>bW (d:=d) (t:=t) (h:=h)
  have e1:=D72 (sC d);have e2:=C1o (k:=W1 d) (by have:=sC d;omega);rw [C3E];unfold D1;generalize encI (d::t)=z at *;exact ⟨_,by simp only [esc,esh,Nat.reduceAdd,Nat.reduceMul,Nat.reduceLT,hl,hd,e1,e2]<;>rfl⟩
 obtain ⟨g',e⟩:=key (ro h);exact B7v e rfl
def nV (t:List Int) (i:Nat):Bool:=(E7C i).all λk=>!decide (toX t k=toX t i)
theorem C7H {d:Int} {t:List Int} {g:B5} {i q:Nat} (ht:t.length=32) (hi:i<32):∀ e k m:Nat,k+e=i->e<m ->
  B1E q m (iV (i:Int)) (pV g.length 0) (iV (i:Int)) (iV (k:Int)) (g++[rT (encI (d::t))]) =
   A4 (bV ((E7M k e).all λk=>!decide (toX t k=toX t i)),g++[rT (encI (d::t))])
 | e,k,0,_,hm=>by omega
 | 0,k,m+1,hk,hm=>by
  have c0:¬ (k:Int)<i:=by omega
  rw [A25];simp only [esc,c0,List.range'_zero]
 | e+1,k,m+1,hk,hm=>by
  have ih:=C7H (d:=d) (g:=g) (q:=q) ht hi e (k+1) m (by omega) (by omega);have c0:(k:Int)<i:=by omega
  have a1:=adX (id:=g.length) (i:=k) (by omega);have a2:=adX (id:=g.length) (i:=i) (by omega);have l1:=ldX (h:=g++[rT (encI (d::t))]) (id:=g.length) T9 ht (i:=k) (by omega);have l2:=ldX (h:=g++[rT (encI (d::t))]) (id:=g.length) T9 ht (i:=i) (by omega);rw [A25,List.range'_succ,E7P];by_cases c:toX t k=toX t i
  ·rw [decide_eq_true c,E8a,E7f];rw [c] at l1;simp only [esc,c0,a1,a2,l1,l2]
  ·rw [decide_eq_false c,E77,E7j];simp only [esc,c0,a1,a2,l1,l2,c,D3 (show k+1<9223372036854775808 by omega)];exact ih
theorem B1D {d:Int} {t:List Int} {i:Nat} {h:B5} (ht:t.length=32) (hi:i<32):A3Y [.a (encI (d::t)),iV (i:Int)] h=A4 (bV (nV t i),h):=by
 have key:∀ N,i<N->∀ g,∃ g',A3z N [.a (encI (d::t)),iV (i:Int)] g=A4 (bV (nV t i),g'):=by
  intro N hN g;have e:=C7H (d:=d) (g:=g) (q:=N) ht hi i 0 N (by omega) hN;rw [B9x];unfold nV;rw [List.range_eq_range'];exact ⟨_,by simp only [esc];exact e⟩
 obtain ⟨g',e⟩:=key (i+1) (by omega) (ro h);exact B5p e rfl
def W4 (n p b:Nat):List Nat:=(E7C n).filter λk=>k%2 ^ b==p%2 ^ b
def A0s (l:List Nat):List Int:=l.map λ(n:Nat)=>(n:Int)
theorem B1d (l:List Nat):(A0s l).length=l.length:=by simp [A0s]
def bX (d b:Int):Nat:=(max 0 (min b (W1 d:Nat))).toNat
theorem E4V (d b:Int):bX d b<=W1 d:=by unfold bX;omega
def plX (d p b:Int):List Nat:=if 0<=p/\p<(D1 d:Nat) then W4 (D1 d) p.toNat (bX d b) else []
def B23 (n s r i:Nat):List Nat:=(E7C n).filter λk=>decide (k<i)&&(k%s==r)
theorem D8g {n s r i:Nat} (hs:0<s) (hi:i<n) (hr:i%s=r):B23 n s r (i+s)=B23 n s r i++[i]:=by
 unfold B23;have e:E7C n=E7C i++(i::E7M (i+1) (n-i-1)):=by
  have e1:E7C n=E7M 0 (i+(n-i-1+1)):=by
   rw [List.range_eq_range'];congr 1;omega
  rw [e1,<-List.range'_append_1,List.range_eq_range',E7t,List.range'_succ]
 rw [e,List.filter_append,List.filter_append,List.filter_cons,List.filter_cons];have h1:(E7C i).filter (λk=>decide (k<i+s)&&(k%s==r))=(E7C i).filter (λk=>decide (k<i)&&(k%s==r)):=by
  refine List.filter_congr λk hk=>?_
  have:=List.mem_range.1 hk;rw [decide_eq_true (show k<i+s by omega),decide_eq_true this]
 have h2:(E7M (i+1) (n-i-1)).filter (λk=>decide (k<i+s)&&(k%s==r))=[]:=by
  rw [List.filter_eq_nil_iff];intro k hk;have hk:=List.mem_range'_1.1 hk;by_cases c:k<i+s
  ·have:k%s≠r:=by
    intro e;have e1:=Nat.div_add_mod k s;have e2:=Nat.div_add_mod i s;rw [e] at e1;rw [hr] at e2;have e3:s*(k/s)<s*(i/s)+s:=by omega
    have e4:s*(i/s)<s*(k/s):=by omega
    have e5:i/s<k/s:=Nat.lt_of_mul_lt_mul_left e4;have e6:s*(i/s+1)<=s*(k/s):=Nat.mul_le_mul_left _ e5;rw [Nat.mul_add] at e6;omega
   simp [this]
  ·simp [c]
 have h3:(E7M (i+1) (n-i-1)).filter (λk=>decide (k<i)&&(k%s==r))=[]:=by
  rw [List.filter_eq_nil_iff];intro k hk;have hk:=List.mem_range'_1.1 hk;rw [decide_eq_false (by omega)];simp
 rw [h1,h2,h3,hr];simp [hs]
theorem D9N {n s r i:Nat} (hi:n<=i):B23 n s r i=(E7C n).filter λk=>k%s==r:=by
 unfold B23;refine List.filter_congr λk hk=>?_
 have:=List.mem_range.1 hk;rw [decide_eq_true (show k<i by omega),E7j]
theorem C66 {n s r:Nat}:B23 n s r r=[]:=by
 unfold B23;rw [List.filter_eq_nil_iff];intro k hk;by_cases c:k<r
 ·have:k%s<=k:=Nat.mod_le _ _;have:¬ k%s=r:=by omega
  simp [this]
 ·simp [c]
theorem D4t (n s r i:Nat):(B23 n s r i).length<=n:=by
 unfold B23;exact E7K (List.length_filter_le _ _) (by simp)
theorem C29 {d:Int} {t:List Int} {g:B5} {s r q:Nat} (ht:t.length=32) (hs:0<s) (hs2:s<=32):∀ (e i m:Nat) (h:B5) (id:Nat),D1 d<=i+e->i<=64->e<m->i%s=r->Low (g++[rT (encI (d::t))]).length (g++[rT (encI (d::t))]) h->(g++[rT (encI (d::t))]).length<=id->rd h id=rT (encI (A0s (B23 (D1 d) s r i))) ->
  ∃ v h',A8D q m (pV g.length 0) (iV (s:Int)) (sV id 0 (B23 (D1 d) s r i).length 1) (iV (i:Int)) h=A4 (v,h') /\
   Out g.length h' v 1 ((E7C (D1 d)).filter λk=>k%s==r).length (encI (A0s ((E7C (D1 d)).filter λk=>k%s==r)))
 | e,i,0,h,id,_,_,hm,_,_,_,_=>by omega
 | e,i,m+1,h,id,hi,hi2,hm,hr,hlow,hid,hrd=>by
  have hB:=E3 (d:=d) ht;have s1:=C7 (h:=h) (id:=g.length) (cs:=encI (d::t)) (hlow.rd (by simp)) hB;have hM:=λh=>dV (d:=d) (h:=h) ht
  have C7W:=O6 d;have hbl:=D4t (D1 d) s r i;rw [E7a] at hid;rw [B51];by_cases c:i<D1 d
  ·obtain ⟨e,rfl⟩:∃ e',e=e'+1:=⟨e-1,by omega⟩;have c0:(i:Int)<(D1 d:Nat):=by omega
   have en:=D8g hs c hr;obtain ⟨h1,a1,a2,a3,a4,a5⟩:=push (ys:=[.i .i64 (i:Int)]) (sz:=1) (n:=(B23 (D1 d) s r i).length) hlow hrd (by rw [B7,B1d];omega) (by rw [E7a];exact hid) rfl (by omega) (by omega);have he:encI (A0s (B23 (D1 d) s r i))++[.i .i64 (i:Int)]=encI (A0s (B23 (D1 d) s r (i+s))):=by rw [en];simp [encI,A0s]
   rw [he] at a2;obtain ⟨v,h',f1,f2⟩:=C29 (q:=q) ht hs hs2 e (i+s) m h1 (h.length+1) (by omega) (by omega) (by omega) (by rw [Nat.add_mod_right];exact hr) a3 a4 a2;have hl1:(B23 (D1 d) s r (i+s)).length=(B23 (D1 d) s r i).length+1:=by rw [en];simp
   rw [hl1] at f1;have ef:E4 [o0] [(0,1,iV (i:Int))]=A4 [.i .i64 (i:Int)]:=rfl;refine ⟨v,h',?_,f2⟩;simp only [esc,s1,hM,c0,ef,a1,A1Y (show i+s<9223372036854775808 by omega)];exact f1
  ·have c0:¬ (i:Int)<(D1 d:Nat):=by omega
   rw [D9N (by omega)] at hrd ⊢;refine ⟨_,_,by simp only [esc,s1,hM,c0]<;>rfl,by rw [B7,B1d];omega,_,rfl,by omega,hrd⟩
theorem amm {b:Int} {d:Nat}:∃ w,B7S (iV b) (iV (d:Int))=A4 (iV w)/\C64 (iV 0) (iV w)=A4 (iV ((max 0 (min b d)).toNat:Nat)):=by
 refine ⟨min b d,?_,?_⟩
 ·simp only [B7S];by_cases h:(d:Int)<b
  ·rw [if_pos h,Int.min_eq_right (by omega)]
  ·rw [if_neg h,Int.min_eq_left (by omega)]
 ·simp only [C64];by_cases h:(min b d:Int) > 0
  ·rw [if_pos h,Int.max_eq_right (by omega),Int.toNat_of_nonneg (by omega)]
  ·rw [if_neg h,Int.max_eq_left (by omega)];rfl
theorem A8C {d:Int} {t:List Int} {p b:Int} {h:B5} (ht:t.length=32) :
  A1n [.a (encI (d::t)),iV p,iV b] h=A4 (sV h.length 0 (plX d p b).length 1,h++[rT (encI (A0s (plX d p b)))]):=by
 have key:∀ N,64<N->∀ g,∃ v g',A07 N [.a (encI (d::t)),iV p,iV b] g=A4 (v,g')/\Out g.length g' v 1 (plX d p b).length (encI (A0s (plX d p b))):=by
  intro N hN g;have hB:=E3 (d:=d) ht;have hM:=λh=>dV (d:=d) (h:=h) ht
  have hD:=λh=>bW (d:=d) (t:=t) (h:=h)
  have C7W:=O6 d;rw [B61];unfold plX;by_cases c1:p<0
  ·rw [if_neg (by omega)];have e1:List.map (λ(n:Nat)=>(n:Int)) []=[]:=rfl;refine ⟨sV (g.length+2) 0 0 1,g++[rT (encI (d::t)),rT [],rT []],?_,rfl,g.length+2,rfl,by omega,by simp [encI,A0s]⟩;generalize encI (d::t)=z at *;simp only [esc,c1]
  ·by_cases c2:((D1 d:Nat):Int)<=p
   ·rw [if_neg (by omega)];refine ⟨sV (g.length+2) 0 0 1,g++[rT (encI (d::t)),rT [],rT []],?_,rfl,g.length+2,rfl,by omega,by simp [encI,A0s]⟩;generalize encI (d::t)=z at *;simp only [esc,esh,Nat.reduceAdd,Nat.reduceMul,Nat.reduceLT,hB,hM,c1,c2]
   ·rw [if_pos (by omega)];obtain ⟨p,rfl⟩:∃ n:Nat,p=n:=⟨p.toNat,by omega⟩;rw [E7r];obtain ⟨w,m1,m2⟩:=amm (b:=b) (d:=W1 d);have hbx:=E4V d b;have hdl:=sC d;change C64 _ _=A4 (iV ((bX d b:Nat):Int)) at m2;have e1:=D72 (k:=bX d b) (by omega);have e2:=C1o (k:=bX d b) (by omega);have hp0:0<2 ^ bX d b:=Nat.pow_pos (by omega);have hp1:=C8G (show bX d b<=5 by omega);have e3:O4 .rem (iV (p:Int)) (iV ((2 ^ bX d b:Nat):Int))=A4 (iV ((p%2 ^ bX d b:Nat):Int)):=by
     rw [A8R (by omega) (by omega)];simp
    have hpm:p%2 ^ bX d b<2 ^ bX d b:=Nat.mod_lt _ hp0;unfold W4;generalize 2 ^ bX d b=s at *;obtain ⟨v,g',f1,f2⟩:=C29 (g:=g) (d:=d) (t:=t) (q:=N) (s:=s) (r:=p%s) ht hp0 hp1 (D1 d) (p%s) N (g++[rT (encI (d::t)),rT [],rT []]) (g.length+2) (by omega) (by omega) (by omega) (Nat.mod_mod _ _)
     (by have:=(Low.refl (h:=g++[rT (encI (d::t))]) (E7b _)).new [rT [],rT []];simpa using this) (by simp) (by rw [C66];simp [encI,A0s])
    rw [C66] at f1;refine ⟨v,g',?_,f2⟩;generalize encI (d::t)=z at *;simp only [esc,esh,Nat.reduceAdd,Nat.reduceMul,Nat.reduceLT,hB,hM,hD,c1,c2,m1,m2,e1,e2,e3] at f1 ⊢;exact f1
 obtain ⟨v,g',e,ho⟩:=key (h.length+65) (by omega) (ro h);exact B5m e (by simpa [F7] using ho) (by simp)
theorem D0a {l:List Nat} {i:Nat} (hi:i<l.length):(encI (A0s l))[i]?=A4 (.i .i64 ((l[i]:Nat):Int)):=by
 rw [G8];unfold A0s;rw [List.getElem?_map,E66 hi];rfl
def A7W (t:List Int) (l:List Nat) (no:Int):Bool:=l.all λk=>decide (toX t k=no)
theorem C9d {d no:Int} {t:List Int} {g:B5} {v:Val} {l:List Nat} {q:Nat} (ht:t.length=32) (hl:∀ k∈l,k<32) (hv:Has g v 1 l.length (encI (A0s l))) (hll:l.length<9223372036854775807):∀ e i m:Nat,i+e=l.length->e<m ->
  B1F q m (iV no) (pV g.length 0) v (iV (l.length:Nat)) (iV (i:Int)) (g++[rT (encI (d::t))])=A4 (bV (A7W t (l.drop i) no),g++[rT (encI (d::t))])
 | e,i,0,_,hm=>by omega
 | 0,i,m+1,hi,hm=>by
  have c0:¬ (i:Int)<(l.length:Nat):=by omega
  rw [A26,E7k (by omega)];simp only [esc,c0,A7W]
 | e+1,i,m+1,hi,hm=>by
  have ih:=C9d (d:=d) (no:=no) (q:=q) ht hl hv hll e (i+1) m (by omega) (by omega);have c0:(i:Int)<(l.length:Nat):=by omega
  obtain ⟨id,off,ev,hid,k1,k2⟩:=(hv.more [rT (encI (d::t))]).sl (by omega);have hx:=k1 i _ (D0a (by omega));have eb:E1 1 v (iV (i:Int))=A4 (pV id (off+i)):=by rw [ev,C9 (by omega)];simp
  have hk:=hl l[i] (E7J (by omega));have a1:=adX (id:=g.length) (i:=l[i]) hk;have l1:=ldX (h:=g++[rT (encI (d::t))]) (id:=g.length) T9 ht (i:=l[i]) hk;rw [A26,E7d (by omega:i<l.length),A7W,E7P];rw [A7W] at ih;by_cases c:toX t l[i]=no
  ·rw [decide_eq_true c,E7j];rw [c] at l1;simp only [esc,c0,eb,hx,a1,l1,D3 (show i+1<9223372036854775808 by omega)];exact ih
  ·rw [decide_eq_false c,E7f];simp only [esc,c0,eb,hx,a1,l1,c]
theorem C74 {d no:Int} {t:List Int} {h:B5} {v:Val} {l:List Nat} (ht:t.length=32) (hl:∀ k∈l,k<32) (hv:Has h v 1 l.length (encI (A0s l))) (hll:l.length<9223372036854775807) :
  A3Z [.a (encI (d::t)),v,iV no] h=A4 (bV (A7W t l no),h):=by
 have key:∀ N,l.length<N->∀ g,Has g v 1 l.length (encI (A0s l))->∃ g',A3A N [.a (encI (d::t)),v,iV no] g=A4 (bV (A7W t l no),g'):=by
  intro N hN g hv;have e:=C9d (d:=d) (no:=no) (q:=N) ht hl hv hll l.length 0 N (by omega) hN;rw [E7p] at e;rw [B9y];exact ⟨_,by simp only [esc,hv.len];exact e⟩
 obtain ⟨g',e⟩:=key (l.length+1) (by omega) (ro h) hv.ro;exact B5q e rfl
theorem D6N {n p b:Nat} (hn:n<=32):∀ k∈W4 n p b,k<32:=by
 intro k hk;have:=List.mem_range.1 (List.mem_filter.1 hk).1;omega
theorem C8D (n p b:Nat):(W4 n p b).length<=n:=E7K (List.length_filter_le _ _) (by simp)
theorem E05 {d:Int} {p b:Nat} (hp:p<D1 d) (hb:b<=W1 d):plX d p b=W4 (D1 d) p b:=by
 unfold plX;have:bX d b=b:=by unfold bX;omega
 rw [if_pos ⟨by omega,by omega⟩,this,E7r]
def C4r (n:Nat) (t:List Int) (p b:Nat):Bool:=!decide (toX t p=0)&&A7W t (W4 n p b) (toX t p)
def bQ (n:Nat) (t:List Int) (p:Nat):Nat->Nat->Nat
 | b,0=>b
 | b,e+1=>bif C4r n t p b then b else bQ n t p (b+1) e
def cE (d:Int) (t:List Int) (p:Nat):Nat:=bQ (D1 d) t p 0 (W1 d)
theorem C0P {d:Int} {t:List Int} {g:B5} {p q:Nat} (ht:t.length=32) (hp:p<D1 d):∀ (e b m:Nat) (h:B5),b+e=W1 d->e<m->Low (g++[rT (encI (d::t))]).length (g++[rT (encI (d::t))]) h ->
  ∃ h',B38 q m (iV (p:Int)) (pV g.length 0) (iV (W1 d:Nat)) (iV (b:Int)) h=A4 (iV (bQ (D1 d) t p b e:Nat),h')
 | e,b,0,h,_,hm,_=>by omega
 | 0,b,m+1,h,hb,hm,hlow=>by
  have e0:b=W1 d:=by omega
  subst e0;have c0:¬ ((W1 d:Nat):Int)<(W1 d:Nat):=by omega
  have hB:=E3 (d:=d) ht;have s1:=C7 (h:=h) (id:=g.length) (cs:=encI (d::t)) (hlow.rd (by simp)) hB;have hD:=λh=>bW (d:=d) (t:=t) (h:=h)
  rw [A5F];generalize encI (d::t)=z at *;exact ⟨_,by simp only [esc,c0,s1,hD,bQ]<;>rfl⟩
 | e+1,b,m+1,h,hb,hm,hlow=>by
  have C7W:=O6 d;have hdl:=sC d;have c0:(b:Int)<(W1 d:Nat):=by omega
  have hB:=E3 (d:=d) ht;have hrd:rd h g.length=rT (encI (d::t)):=hlow.rd (by simp);have s1:=C7 (h:=h) (id:=g.length) (cs:=encI (d::t)) hrd hB;have a1:=adX (id:=g.length) (i:=p) (by omega);have l1:=ldX (h:=h) (id:=g.length) hrd ht (i:=p) (by omega);have hP:=A8C (d:=d) (p:=p) (b:=b) (h:=h) ht;rw [E05 hp (by omega)] at hP;have hq:=U3 ((Grows.rfl' (h:=h)).new (encI (A0s (W4 (D1 d) p b)))) (v:=sV h.length 0 (W4 (D1 d) p b).length 1);have hW:=C74 (d:=d) (no:=toX t p) (h:=h++[rT (encI (A0s (W4 (D1 d) p b)))]) (v:=sV h.length 0 (W4 (D1 d) p b).length 1) ht (D6N (p:=p) (b:=b) C7W) (Has.row (rw:=A5) T9 (by rw [B7,B1d];omega) (aR _)) (by have:=C8D (D1 d) p b;omega);have l2:=ldX (h:=h++[rT (encI (A0s (W4 (D1 d) p b)))]) (id:=g.length) (C5 hrd) ht (i:=p) (by omega);rw [A5F,bQ];unfold C4r;by_cases cz:toX t p=0
  ·obtain ⟨h',ih⟩:=C0P (q:=q) ht hp e (b+1) m h (by omega) (by omega) hlow;rw [decide_eq_true cz,E8a,E7f,cond_false];rw [cz] at l1;refine ⟨h',?_⟩;generalize encI (d::t)=z at *;simp only [esc,c0,a1,l1,D3 (show b+1<9223372036854775808 by omega)];exact ih
  ·rw [decide_eq_false cz,E77,E7j];cases cw:A7W t (W4 (D1 d) p b) (toX t p) with
   | true =>
    rw [cw] at hW;rw [cond_true];generalize encI (d::t)=z at *;exact ⟨_,by simp only [esc,c0,a1,l1,cz,s1,hP,hq,l2,hW]<;>rfl⟩
   | false =>
    rw [cw] at hW;obtain ⟨h',ih⟩:=C0P (q:=q) ht hp e (b+1) m (h++[rT (encI (A0s (W4 (D1 d) p b)))]) (by omega) (by omega) (hlow.new _);rw [cond_false];refine ⟨h',?_⟩;generalize encI (d::t)=z at *;simp only [esc,c0,a1,l1,cz,s1,hP,hq,l2,hW,D3 (show b+1<9223372036854775808 by omega)];exact ih
def D9O (d:Int) (t:List Int) (p:Int):Nat:=if 0<=p/\p<(D1 d:Nat) then cE d t p.toNat else 0
theorem D0n {d:Int} {t:List Int} {p:Int} {h:B5} (ht:t.length=32):A62 [.a (encI (d::t)),iV p] h=A4 (iV (D9O d t p:Nat),h):=by
 have key:∀ N,5<N->∀ g,∃ g',A6u N [.a (encI (d::t)),iV p] g=A4 (iV (D9O d t p:Nat),g'):=by
  intro N hN g;have hB:=E3 (d:=d) ht;have hM:=λh=>dV (d:=d) (h:=h) ht
  have hD:=λh=>bW (d:=d) (t:=t) (h:=h)
  have hdl:=sC d;rw [C3C];unfold D9O;by_cases c1:p<0
  ·rw [if_neg (by omega)];generalize encI (d::t)=z at *;exact ⟨_,by simp only [esc,c1]<;>rfl⟩
  ·by_cases c2:((D1 d:Nat):Int)<=p
   ·rw [if_neg (by omega)];generalize encI (d::t)=z at *;exact ⟨_,by simp only [esc,esh,Nat.reduceAdd,Nat.reduceMul,Nat.reduceLT,hB,hM,c1,c2]<;>rfl⟩
   ·rw [if_pos (by omega)];obtain ⟨p,rfl⟩:∃ n:Nat,p=n:=⟨p.toNat,by omega⟩;rw [E7r];obtain ⟨h',e⟩:=C0P (g:=g) (q:=N) ht (show p<D1 d by omega) (W1 d) 0 N (g++[rT (encI (d::t))]) (by omega) (by omega) (Low.refl (E7b _));unfold cE;refine ⟨h',?_⟩;generalize encI (d::t)=z at *;simp only [esc,esh,Nat.reduceAdd,Nat.reduceMul,Nat.reduceLT,hB,hM,hD,c1,c2];exact e
 obtain ⟨g',e⟩:=key (h.length+6) (by omega) (ro h);exact B7t e rfl
theorem E13 {d:Int} {t:List Int} {p:Nat} (hp:p<D1 d):D9O d t p=cE d t p:=by
 unfold D9O;rw [if_pos ⟨by omega,by omega⟩,E7r]
def sA (n:Nat) (t:List Int) (no:Int):Nat:=((E7C n).filter λk=>decide (toX t k=no)).length
theorem D4L {n:Nat} {t:List Int} {no:Int}:sA (n+1) t no=sA n t no+(if toX t n=no then 1 else 0):=by
 unfold sA;rw [List.range_succ,List.filter_append,E7a,List.filter_cons];by_cases c:toX t n=no<;>simp [c]
theorem D8o {n:Nat} {t:List Int} {no:Int}:sA n t no<=n:=E7K (List.length_filter_le _ _) (by simp)
theorem C7t {d no:Int} {t:List Int} {g:B5} {n q:Nat} (ht:t.length=32) (hn:n<=32):∀ e i m:Nat,i+e=n->e<m ->
  B1C q m (iV no) (pV g.length 0) (iV (sA i t no:Nat)) (iV (n:Int)) (iV (i:Int)) (g++[rT (encI (d::t))])=A4 (iV (sA n t no:Nat),g++[rT (encI (d::t))])
 | e,i,0,_,hm=>by omega
 | 0,i,m+1,hi,hm=>by
  have e0:i=n:=by omega
  subst e0;have c0:¬ (i:Int)<i:=by omega
  rw [A24];simp only [esc,c0]
 | e+1,i,m+1,hi,hm=>by
  have ih:=C7t (d:=d) (no:=no) (g:=g) (q:=q) ht hn e (i+1) m (by omega) (by omega);have c0:(i:Int)<n:=by omega
  have a1:=adX (id:=g.length) (i:=i) (by omega);have l1:=ldX (h:=g++[rT (encI (d::t))]) (id:=g.length) T9 ht (i:=i) (by omega);have hc:=D8o (n:=i) (t:=t) (no:=no);rw [D4L] at ih;rw [A24];generalize sA i t no=C at *;by_cases c:toX t i=no
  ·rw [if_pos c] at ih;rw [c] at l1;simp only [esc,c0,a1,l1,A23,D3 (show C+1<9223372036854775808 by omega),D3 (show i+1<9223372036854775808 by omega)];exact ih
  ·rw [if_neg c,Nat.add_zero] at ih;simp only [esc,c0,a1,l1,c,A23,D3 (show i+1<9223372036854775808 by omega)];exact ih
theorem C72 {d no:Int} {t:List Int} {h:B5} (ht:t.length=32):A3W [.a (encI (d::t)),iV no] h=A4 (iV (sA (D1 d) t no:Nat),h):=by
 have key:∀ N,32<N->∀ g,∃ g',A3x N [.a (encI (d::t)),iV no] g=A4 (iV (sA (D1 d) t no:Nat),g'):=by
  intro N hN g;have hB:=E3 (d:=d) ht;have hM:=λh=>dV (d:=d) (h:=h) ht
  have hm:=O6 d;have e:=C7t (d:=d) (no:=no) (g:=g) (q:=N) ht hm (D1 d) 0 N (by omega) (by omega);rw [show sA 0 t no=0 from rfl] at e;rw [B9v];generalize encI (d::t)=z at *;exact ⟨_,by simp only [esc,esh,Nat.reduceAdd,Nat.reduceMul,Nat.reduceLT,hB,hM];exact e⟩
 obtain ⟨g',e⟩:=key (h.length+33) (by omega) (ro h);exact B5n e rfl
def A3j (d:Int) (t:List Int) (i:Nat):Bool:=decide ((W4 (D1 d) i (cE d t i)).length=sA (D1 d) t (toX t i))
def A29 (d:Int) (t:List Int) (i:Nat):Bool:=!decide (toX t i=0)&&(vF (toX t i)&&(nV t i||A3j d t i))
def sR (d:Int) (t:List Int) (i:Nat):Int:=bif A29 d t i then toX t i else 0
def qG (d:Int) (t:List Int) (k:Nat):List Int:=(E7C k).map (sR d t)++zI (32-k)
theorem xW {d:Int} {t:List Int} {k:Nat} (hk:k<=32):(qG d t k).length=32:=by simp [qG,zI];omega
theorem D1C {d:Int} {t:List Int}:qG d t 0=zI 32:=rfl
theorem D1B {d:Int} {t:List Int} {k:Nat} (hk:k<32):qG d t (k+1)=(qG d t k).set k (sR d t k):=by
 unfold qG;have e:zI (32-k)=0::zI (32-(k+1)):=by
  unfold zI;rw [show 32-k=(32-(k+1))+1 by omega,E7z]
 rw [e,E7I _ _ (by simp),List.range_succ,E71,E7c];simp
theorem D1A {d:Int} {t:List Int} {k:Nat} (hk:k<32) (hf:sR d t k=0):qG d t (k+1)=qG d t k:=by
 unfold qG;have e:zI (32-k)=0::zI (32-(k+1)):=by
  unfold zI;rw [show 32-k=(32-(k+1))+1 by omega,E7z]
 rw [e,List.range_succ,E71,E7c];simp [hf]
theorem C7J {d:Int} {t:List Int} {g:B5} {q:Nat} (ht:t.length=32):∀ (e i m:Nat) (h:B5),i+e=D1 d->e<m->Low (g++[rT (encI (d::t)),rT (encI (0::zI 32))]).length (g++[rT (encI (d::t)),rT (encI (0::zI 32))]) h->rd h (g.length+2)=rT (encI (d::qG d t i)) ->
  ∃ h',A0y q m (pV g.length 0) (pV (g.length+1) 0) (pV (g.length+2) 0) (iV (D1 d:Nat)) (iV (i:Int)) h=A4 (.a (encI (d::qG d t (D1 d))),h')
 | e,i,0,h,_,hm,_,_=>by omega
 | 0,i,m+1,h,hi,hm,hlow,hr=>by
  have e0:i=D1 d:=by omega
  subst e0;have c0:¬ ((D1 d:Nat):Int)<(D1 d:Nat):=by omega
  have hF:=E3 (d:=d) (xW (d:=d) (t:=t) (O6 d));have hz:(encI (0::zI 32)).length=33:=E3 (d:=0) I8;have hr1:rd h (g.length+1)=rT (encI (0::zI 32)):=hlow.rd (by simp);have s1:=C7 (h:=h) (id:=g.length+2) hr hF;have s2:=storeAll (h:=h) (id:=g.length+1) (xs:=encI (d::qG d t (D1 d))) hr1 hz hF;have s3:=C7 (h:=h.set (g.length+1) (rT (encI (d::qG d t (D1 d))))) (id:=g.length+1) (C6 (C8 hr1)) hF;rw [A8z];generalize encI (d::qG d t (D1 d))=z at *;exact ⟨_,by simp only [esc,c0,s1,s2,s3]<;>rfl⟩
 | e+1,i,m+1,h,hi,hm,hlow,hr=>by
  have C7W:=O6 d;have c0:(i:Int)<(D1 d:Nat):=by omega
  have hB:=E3 (d:=d) ht;have hrd:rd h g.length=rT (encI (d::t)):=hlow.rd (by simp);have s1:=C7 (h:=h) (id:=g.length) (cs:=encI (d::t)) hrd hB;have a1:=adX (id:=g.length) (i:=i) (by omega);have l1:=ldX (h:=h) (id:=g.length) hrd ht (i:=i) (by omega);have hFi:=λh=>B39 (n:=toX t i) (h:=h)
  have hFs:=λh=>B1D (d:=d) (t:=t) (i:=i) (h:=h) ht (by omega)
  have w1:=D3 (show i+1<9223372036854775808 by omega);have hk:i<32:=by omega
  have skip:sR d t i=0->∀ h2,Low (g++[rT (encI (d::t)),rT (encI (0::zI 32))]).length (g++[rT (encI (d::t)),rT (encI (0::zI 32))]) h2->rd h2 (g.length+2)=rT (encI (d::qG d t i)) ->
    ∃ h',A0y q m (pV g.length 0) (pV (g.length+1) 0) (pV (g.length+2) 0) (iV (D1 d:Nat)) (iV ((i+1:Nat):Int)) h2=A4 (.a (encI (d::qG d t (D1 d))),h'):=by
   intro hf h2 hlow2 hr2;exact C7J (q:=q) ht e (i+1) m h2 (by omega) (by omega) hlow2 (by rw [D1A hk hf];exact hr2)
  have a3:=adX (id:=g.length+2) (i:=i) hk;have put:sR d t i=toX t i->∀ h2,Low (g++[rT (encI (d::t)),rT (encI (0::zI 32))]).length (g++[rT (encI (d::t)),rT (encI (0::zI 32))]) h2->rd h2 (g.length+2)=rT (encI (d::qG d t i)) ->
    ∃ h3,I3 h2 (pV (g.length+2) (1+i)) (iV (toX t i))=A4 h3/\∃ h',A0y q m (pV g.length 0) (pV (g.length+1) 0) (pV (g.length+2) 0) (iV (D1 d:Nat)) (iV ((i+1:Nat):Int)) h3=A4 (.a (encI (d::qG d t (D1 d))),h'):=by
   intro hf h2 hlow2 hr2;have hF:=E3 (d:=d) (xW (d:=d) (t:=t) (k:=i) (by omega));have t1:=G9 (x:=.i .i64 (toX t i)) (off:=1+i) hr2 (by rw [hF];omega);rw [B73,<-hf,<-D1B hk,hf] at t1;refine ⟨_,t1,C7J (q:=q) ht e (i+1) m _ (by omega) (by omega) (hlow2.set (by simp) _) (C6 (C8 hr2))⟩
  rw [A8z];by_cases cz:toX t i=0
  ·have hf:sR d t i=0:=by unfold sR A29;rw [decide_eq_true cz];rfl
   obtain ⟨h',ih⟩:=skip hf h hlow hr;rw [cz] at l1;refine ⟨h',?_⟩;generalize encI (d::t)=z at *;simp only [esc,c0,a1,l1,iL,w1];exact ih
  ·cases cf:vF (toX t i) with
   | false =>
    rw [cf] at hFi;have hf:sR d t i=0:=by unfold sR A29;rw [cf,E7f,E75,cond_false]
    obtain ⟨h',ih⟩:=skip hf h hlow hr;refine ⟨h',?_⟩;generalize encI (d::t)=z at *;simp only [esc,c0,a1,l1,cz,hFi,iL,w1];exact ih
   | true =>
    rw [cf] at hFi;cases cs:nV t i with
    | true =>
     rw [cs] at hFs;have hf:sR d t i=toX t i:=by unfold sR A29;rw [cf,cs,decide_eq_false cz];rfl
     obtain ⟨h3,st,h',ih⟩:=put hf h hlow hr;refine ⟨h',?_⟩;generalize encI (d::t)=z at *;simp only [esc,c0,a1,l1,cz,hFi,s1,hFs,a3,st,iL,w1];exact ih
    | false =>
     rw [cs] at hFs;have hBi:=λh=>D0n (d:=d) (t:=t) (p:=(i:Int)) (h:=h) ht
     rw [E13 (by omega)] at hBi;have hbl:cE d t i<=W1 d:=by
      have:∀ e b,bQ (D1 d) t i b e<=b+e:=by
       intro e
       induction e with
       | zero=>intro b;exact E7b _
       | succ e ih =>
        intro b;unfold bQ;cases C4r (D1 d) t i b
        ·rw [cond_false];have:=ih (b+1);omega
        ·rw [cond_true];omega
      have:=this (W1 d) 0;unfold cE;omega
     have hP:=A8C (d:=d) (p:=(i:Int)) (b:=(cE d t i:Nat)) (h:=h) ht;rw [E05 (by omega) hbl] at hP;have hq:=U3 ((Grows.rfl' (h:=h)).new (encI (A0s (W4 (D1 d) i (cE d t i))))) (v:=sV h.length 0 (W4 (D1 d) i (cE d t i)).length 1);have hC:=λh=>C72 (d:=d) (no:=toX t i) (h:=h) ht
     have ew:decide (((W4 (D1 d) i (cE d t i)).length:Int)=((sA (D1 d) t (toX t i):Nat):Int))=A3j d t i:=by
      unfold A3j;by_cases c:(W4 (D1 d) i (cE d t i)).length=sA (D1 d) t (toX t i)
      ·rw [decide_eq_true c,decide_eq_true (by omega)]
      ·rw [decide_eq_false c,decide_eq_false (by omega)]
     have hlow2:=hlow.new [rT (encI (A0s (W4 (D1 d) i (cE d t i))))];have hr2:rd (h++[rT (encI (A0s (W4 (D1 d) i (cE d t i))))]) (g.length+2)=rT (encI (d::qG d t i)):=C5 hr;cases cw:A3j d t i with
     | true =>
      rw [cw] at ew;have hf:sR d t i=toX t i:=by unfold sR A29;rw [cf,cs,cw,decide_eq_false cz];rfl
      obtain ⟨h3,st,h',ih⟩:=put hf _ hlow2 hr2;refine ⟨h',?_⟩;generalize encI (d::t)=z at *;simp only [esc,c0,a1,l1,cz,hFi,s1,hFs,hBi,hP,hq,hC,ew,a3,st,iL,w1];exact ih
     | false =>
      rw [cw] at ew;have hf:sR d t i=0:=by unfold sR A29;rw [cf,cs,cw,decide_eq_false cz];rfl
      obtain ⟨h',ih⟩:=skip hf _ hlow2 hr2;refine ⟨h',?_⟩;generalize encI (d::t)=z at *;simp only [esc,c0,a1,l1,cz,hFi,s1,hFs,hBi,hP,hq,hC,ew,iL,w1];exact ih
def D0j (d:Int) (t:List Int):List Int:=if 0<=d/\d<=5 then d::qG d t (D1 d) else 0::zI 32
theorem D3a {d:Int} {t:List Int} {h:B5} (ht:t.length=32):B0k [.a (encI (d::t))] h=A4 (.a (encI (D0j d t)),h):=by
 have key:∀ N,32<N->∀ g,∃ g',A9v N [.a (encI (d::t))] g=A4 (.a (encI (D0j d t)),g'):=by
  intro N hN g;have hB:=E3 (d:=d) ht;have hz:(encI (0::zI 32)).length=33:=E3 (d:=0) I8;have hM:=λh=>dV (d:=d) (h:=h) ht
  have hD:=λh=>bW (d:=d) (t:=t) (h:=h)
  have l0:(encI (d::t))[0]?=A4 (.i .i64 d):=rfl;have haf:E4 (encI (0::zI 32)) []=A4 (encI (0::zI 32)):=rfl;rw [C5M,B2e];unfold D0j;by_cases c:0<=d/\d<=5
  ·rw [if_pos c];have hd:=B2s c.1 c.2;rw [hd] at hD;have ef:E4 (encI (0::zI 32)) [(0,1,iV d)]=A4 (encI (d::zI 32)):=by
    have e1:(0+1<=(encI (0::zI 32)).length):=by rw [hz];omega
    simp only [E4,cells?];rw [if_pos ⟨rfl,e1⟩];rfl
   have hz2:(encI (d::zI 32)).length=33:=E3 (d:=d) I8;obtain ⟨h',e⟩:=C7J (g:=g) (d:=d) (t:=t) (q:=N) ht (D1 d) 0 N (g++[rT (encI (d::t)),rT (encI (0::zI 32)),rT (encI (d::zI 32))]) (by omega) (by have:=O6 d;omega)
    (by have:=(Low.refl (h:=g++[rT (encI (d::t)),rT (encI (0::zI 32))]) (E7b _)).new [rT (encI (d::zI 32))];simpa using this) (by rw [D1C];simp)
   refine ⟨h',?_⟩;generalize encI (d::zI 32)=z2 at *;generalize encI (0::zI 32)=z at *;generalize encI (d::t)=y at *;simp only [esc,esh,Nat.reduceAdd,Nat.reduceMul,Nat.reduceLT,hB,hz,l0,hM,hD,ef,hz2];exact e
  ·rw [if_neg c];have cd:¬ d=((W1 d:Nat):Int):=by unfold W1;omega
   generalize encI (0::zI 32)=z at *;generalize encI (d::t)=y at *;exact ⟨_,by simp only [esc,esh,Nat.reduceAdd,Nat.reduceMul,Nat.reduceLT,hB,hz,l0,hM,hD,cd,haf]<;>rfl⟩
 obtain ⟨g',e⟩:=key (h.length+33) (by omega) (ro h);exact C0h e (by simp)
theorem D4Y {d:Int} {t:List Int}:(D0j d t).length=33:=by
 unfold D0j;split
 ·rw [E7g,xW (O6 d)]
 ·rw [E7g,I8]
def sL (d:List Int):List UInt8:=(d.map (B9 2)).flatten
theorem pZ {d:List Int}:(sL d).length=2*d.length:=by
 induction d with
 | nil=>rfl
 | cons x d ih=>simp only [sL,E79,List.flatten_cons,E7a,Q5,E7g] at ih ⊢;omega
theorem D1T {d:List Int} {x:Int}:sL (d++[x])=sL d++B9 2 x:=by simp [sL]
def magX:List UInt8:=[105,100,120,33]
def zC (d:Int):List UInt8:=magX++B9 1 d++zeros 27
theorem pX {d:Int}:(zC d).length=32:=by simp [zC,magX]
def fU (d:Int) (t:List Int):List UInt8:=O7 256 (zC d++sL t)
theorem lJ {d:Int} {t:List Int} (ht:t.length=32):(fU d t).length=256:=I1 (by rw [E7a,pX,pZ];omega)
theorem D6L {n k:Nat} {l:List UInt8} (h:l.length+k<=n):O7 n (l++zeros k)=O7 n l:=by
 unfold O7 zeros;rw [E7c,List.replicate_append_replicate,E7a,E7B]
 congr 2;omega
def okX (d:Int) (t:List Int):Bool:=decide (0<=d)&&(decide (d<=5)&&t.all vF)
theorem D1L {d:Int} {t:List Int} {g:B5} {y:List Cell} {q:Nat} (ht:t.length=32) (hyl:y.length=33):∀ e i m:Nat,i+e=32->e<m ->
  ∃ h',B8q q m (pV (g.length+1) 0) (pV (g.length+3) 0) (.a (encI t)) (iV (i:Int)) (g++[rT y,rT (B4 (zeros 256)),rT (B4 magX),rT (B4 (O7 256 (zC d++sL (t.take i))))]) =
   A4 (.t [.a (B4 (bif (t.drop i).all vF then fU d t else zeros 256)),.c (.i .i64 (bif (t.drop i).all vF then 0 else 1))],h')
 | e,i,0,_,hm=>by omega
 | 0,i,m+1,hi,hm=>by
  have e0:i=32:=by omega
  subst e0;have c0:¬ ((32:Nat):Int)<32:=by omega
  have hz:(B4 (zeros 256)).length=256:=by rw [A9];exact zeros_length
  have hB:(B4 (fU d t)).length=256:=by rw [A9];exact lJ ht
  have eB:O7 256 (zC d++sL t)=fU d t:=rfl;rw [A8E,E7i (by omega),E7k (by omega),List.all_nil,cond_true,cond_true,eB];generalize fU d t=B at *;generalize B4 magX=mg at *;generalize zeros 256=z at *;exact ⟨_,by simp only [esc,esh,Nat.reduceAdd,Nat.reduceMul,Nat.reduceLT,c0,hz,hB]<;>rfl⟩
 | e+1,i,m+1,hi,hm=>by
  obtain ⟨h',ih⟩:=D1L (d:=d) (g:=g) (q:=q) ht hyl e (i+1) m (by omega) (by omega);have c0:(i:Int)<32:=by omega
  have hz:(B4 (zeros 256)).length=256:=by rw [A9];exact zeros_length
  have haf:E4 (E68 256 (Cell.i .u8 0)) []=A4 (E68 256 (Cell.i .u8 0)):=rfl;rw [I7] at haf;have hx:A4c 32 (.a (encI t)) (iV (i:Int))=A4 (iV t[i]):=by
   rw [B8k (by omega),G8,E66 (by omega)];rfl
  have hF:=λh=>B39 (n:=t[i]) (h:=h)
  have hnl:(zC d++sL (t.take i)).length=32+2*i:=by rw [E7a,pX,pZ,E7A];omega
  have hP0:(O7 256 (zC d++sL (t.take i))).length=256:=I1 (by omega);have hp:(B4 (O7 256 (zC d++sL (t.take i)))).length=256:=by rw [A9,hP0]
  have hW:=λh=>Y6 (h:=h) (l:=O7 256 (zC d++sL (t.take i))) hP0 (a:=((32+2*i:Nat):Int)) (w:=2) (v:=t[i])
  have ew:=iY (l:=zC d++sL (t.take i)) (a:=32+2*i) (w:=2) (v:=t[i]) (by omega) (by omega) (by omega) (by omega);rw [hnl,E7R,show zeros 0=[] from rfl,E7w,E7c,<-D1T,<-E7n (by omega)] at ew;rw [show ((2:Nat):Int)=2 from rfl] at ew;rw [ew] at hW;have hp2:(B4 (O7 256 (zC d++sL (t.take (i+1))))).length=256:=by rw [A9,I1 (by rw [E7a,pX,pZ,E7A];omega)]
  have w1:IntKind.wrap .i64 (2*(i:Int))=((2*i:Nat):Int):=by rw [wrap_i64 (by omega) (by omega)];omega
  have w2:IntKind.wrap .i64 (32+((2*i:Nat):Int))=((32+2*i:Nat):Int):=by rw [wrap_i64 (by omega) (by omega)];omega
  rw [A8E,I7,E7d (by omega:i<t.length),E7P];generalize O7 256 (zC d++sL (t.take (i+1)))=P1 at *;generalize O7 256 (zC d++sL (t.take i))=P0 at *;generalize fU d t=B at *;generalize B4 magX=mg at *;generalize zeros 256=z at *;cases c:vF t[i] with
  | false =>
   rw [c] at hF;rw [E7f,cond_false,cond_false];exact ⟨_,by simp only [esc,esh,Nat.reduceAdd,Nat.reduceMul,Nat.reduceLT,c0,hx,hF,haf,hz]<;>rfl⟩
  | true =>
   rw [c] at hF;rw [E7j];refine ⟨h',?_⟩;simp only [esc,esh,Nat.reduceAdd,Nat.reduceMul,Nat.reduceLT,c0,hx,hF,hp,w1,w2,hW,hp2,D3 (show i+1<9223372036854775808 by omega)];exact ih
theorem B8p {d:Int} {t:List Int} {h:B5} (ht:t.length=32):B0m [.a (encI (d::t))] h=A4 (.t [.a (B4 (bif okX d t then fU d t else zeros 256)),.c (.i .i64 (bif okX d t then 0 else 1))],h):=by
 have key:∀ N,32<N->∀ g,∃ g',A9x N [.a (encI (d::t))] g=A4 (.t [.a (B4 (bif okX d t then fU d t else zeros 256)),.c (.i .i64 (bif okX d t then 0 else 1))],g'):=by
  intro N hN g;have hB:=E3 (d:=d) ht;have hz:(B4 (zeros 256)).length=256:=by rw [A9];exact zeros_length
  have hD:=λh=>bW (d:=d) (t:=t) (h:=h)
  have l0:(encI (d::t))[0]?=A4 (.i .i64 d):=rfl;have haf:E4 (E68 256 (Cell.i .u8 0)) []=A4 (E68 256 (Cell.i .u8 0)):=rfl;rw [I7] at haf;rw [C5O,I7];unfold okX;by_cases c:0<=d/\d<=5
  ·rw [decide_eq_true c.1,decide_eq_true c.2,E7j,E7j];have hd:=B2s c.1 c.2;rw [hd] at hD;have ef:E4 [Cell.i .u8 0,.i .u8 0,.i .u8 0,.i .u8 0] [(0,1,.c (.i .u8 105)),(1,1,.c (.i .u8 100)),(2,1,.c (.i .u8 120)),(3,1,.c (.i .u8 33))]=A4 (B4 magX):=rfl;have hO:=B2E (data:=magX) (v:=sV (g.length+2) 0 4 1) (nv:=4) (h:=g++[rT (encI (d::t)),rT (B4 (zeros 256)),rT (B4 magX),A7]) (Has.row (rw:=A5) (by simp) rfl (F9 _)) (by decide);rw [C8v (by decide)] at hO;have hM:zN (g++[rT (encI (d::t)),rT (B4 (zeros 256)),rT (B4 magX),A7]) (sV (g.length+2) 0 4 1)=A4 (sV (g.length+2) 0 4 1):=by simp [zN]
   have hW:=λh=>Y6 (h:=h) (l:=O7 256 magX) (I1 (by decide)) (a:=4) (w:=1) (v:=d)
   have ew:=iY (l:=magX) (a:=4) (w:=1) (v:=d) (by decide) (by omega) (by omega) (by omega);have e5:magX++zeros (4-magX.length)++B9 1 d=magX++B9 1 d:=rfl;have e6:O7 256 (magX++B9 1 d)=O7 256 (zC d++sL (t.take 0)):=by
    rw [E76,show sL []=[] from rfl,E7w];exact (D6L (by simp [magX])).symm
   rw [e5,e6] at ew;rw [show ((4:Nat):Int)=4 from rfl,show ((1:Nat):Int)=1 from rfl] at ew;rw [ew] at hW;have hp2:(B4 (O7 256 (zC d++sL (t.take 0)))).length=256:=by rw [A9,I1 (by rw [E7a,pX,pZ,E7A];omega)]
   have e7:D4 (g++[rT (encI (d::t)),rT (B4 (zeros 256)),rT (B4 magX),rT (B4 (O7 256 (zC d++sL (t.take 0))))]) 32 (pV g.length 1)=A4 (.a (encI t)):=by
    rw [Q9];simp only [List.getElem?_cons_zero,Option.join_some,ldN,E7h];rw [if_pos ⟨by rw [hB];omega,rfl⟩];have:(encI (d::t)).drop 1=encI t:=rfl;rw [this,E7i (by rw [B7];omega)]
   obtain ⟨h',e⟩:=D1L (d:=d) (t:=t) (g:=g) (q:=N) ht hB 32 0 N (by omega) hN;rw [E7p] at e;generalize O7 256 (zC d++sL (t.take 0))=P1 at *;generalize O7 256 magX=P2 at *;generalize fU d t=B at *;generalize B4 magX=mg at *;generalize zeros 256=z at *;generalize encI (d::t)=y at *;refine ⟨h',?_⟩;simp only [esc,esh,Nat.reduceAdd,Nat.reduceMul,Nat.reduceLT,hB,hz,l0,hD,ef,hM,hO,hW,hp2,e7,show g.length+2+1=g.length+3 from rfl];exact e
  ·have cd:¬ d=((W1 d:Nat):Int):=by unfold W1;omega
   have ec:(decide (0<=d)&&(decide (d<=5)&&t.all vF))=A6:=by
    by_cases c1:0<=d
    ·rw [decide_eq_false (show ¬ d<=5 by omega)];simp
    ·rw [decide_eq_false c1];rfl
   rw [ec,cond_false,cond_false];generalize zeros 256=z at *;generalize encI (d::t)=y at *;exact ⟨_,by simp only [esc,esh,Nat.reduceAdd,Nat.reduceMul,Nat.reduceLT,hB,hz,l0,hD,cd,haf]<;>rfl⟩
 obtain ⟨g',e⟩:=key (h.length+33) (by omega) (ro h);refine C0k e ?_;cases okX d t<;>simp
def getD (b:List UInt8):Int:=fieldN b 4 1
def E4W (b:List UInt8) (i:Nat):Int:=fieldN b (32+2*i) 2
def N7 (b:List UInt8) (n:Nat):List Int:=(E7C n).map (E4W b)++zI (32-n)
theorem lD {b:List UInt8} {n:Nat} (hn:n<=32):(N7 b n).length=32:=by simp [N7,zI];omega
theorem D1G {b:List UInt8} {k:Nat} (hk:k<32):N7 b (k+1)=(N7 b k).set k (E4W b k):=by
 unfold N7;have e:zI (32-k)=0::zI (32-(k+1)):=by
  unfold zI;rw [show 32-k=(32-(k+1))+1 by omega,E7z]
 rw [e,E7I _ _ (by simp),List.range_succ,E71,E7c];simp
theorem D2S {b:List UInt8} {a w:Nat} (h:a+w<=256) (hw:1<=w) (hw4:w<=4):((atN b (a:Int) w:Nat):Int)=fieldN b a w:=by
 unfold atN fieldN;rw [if_pos ⟨by omega,O0.2 (by omega)⟩];simp only [E7r]
def A1R (t:List Int) (n e:Nat):Bool:=(E7M n e).all λi=>decide (toX t i=0)
def U8 (b:List UInt8):Bool:=okX (getD b) (N7 b 32)&&(decide (fU (getD b) (N7 b 32)=b)&&A1R (N7 b 32) (D1 (getD b)) (32-D1 (getD b)))
theorem E0n {b:List UInt8} {d:Int} {t:List Int} {ix iz q:Nat} {h:B5} (ht:t.length=32) (hx:rd h ix=rT (encI (d::t))) (hz:rd h iz=rT (encI (0::zI 32))):∀ e i m:Nat,i+e=32->e<m ->
  ∃ h',B8o q m (pV iz 0) (pV ix 0) (iV (i:Int)) h=A4 (.t [.a (encI (bif A1R t i e then d::t else 0::zI 32)),.c (.i .i64 (bif A1R t i e then 0 else 14))],h')
 | e,i,0,_,hm=>by omega
 | 0,i,m+1,hi,hm=>by
  have e0:i=32:=by omega
  subst e0;have c0:¬ ((32:Nat):Int)<32:=by omega
  have hX:=E3 (d:=d) ht;have hZ:(encI (0::zI 32)).length=33:=E3 (d:=0) I8;have s1:=C7 (h:=h) (id:=ix) hx hX;have s2:=storeAll (h:=h) (id:=iz) (xs:=encI (d::t)) hz hZ hX;have s3:=C7 (h:=h.set iz (rT (encI (d::t)))) (id:=iz) (C6 (C8 hz)) hX;have er:A1R t 32 0=A5:=rfl;rw [A8B,er,cond_true,cond_true];generalize encI (d::t)=y at *;exact ⟨_,by simp only [esc,c0,s1,s2,s3]<;>rfl⟩
 | e+1,i,m+1,hi,hm=>by
  obtain ⟨h',ih⟩:=E0n (b:=b) (q:=q) ht hx hz e (i+1) m (by omega) (by omega);have c0:(i:Int)<32:=by omega
  have hZ:(encI (0::zI 32)).length=33:=E3 (d:=0) I8;have a1:=adX (id:=ix) (i:=i) (by omega);have l1:=ldX (h:=h) (id:=ix) hx ht (i:=i) (by omega);have haf:E4 (encI (0::zI 32)) []=A4 (encI (0::zI 32)):=rfl;have s2:=storeAll (h:=h) (id:=iz) (xs:=encI (0::zI 32)) hz hZ hZ;have s3:=C7 (h:=h.set iz (rT (encI (0::zI 32)))) (id:=iz) (C6 (C8 hz)) hZ;have er:A1R t i (e+1)=(decide (toX t i=0)&&A1R t (i+1) e):=by unfold A1R;rw [List.range'_succ,E7P]
  rw [A8B,er,B2e];by_cases c:toX t i=0
  ·rw [decide_eq_true c,E7j];rw [c] at l1;generalize encI (0::zI 32)=z at *;exact ⟨h',by simp only [esc,c0,a1,l1,D3 (show i+1<9223372036854775808 by omega)];exact ih⟩
  ·rw [decide_eq_false c,E7f,cond_false,cond_false];generalize encI (0::zI 32)=z at *;exact ⟨_,by simp only [esc,c0,a1,l1,c,haf,s2,s3]<;>rfl⟩
theorem E0m {b:List UInt8} {g:B5} {q:Nat} (hb:b.length=256) (hq:32<q):∀ e i m:Nat,i+e=32->e<m ->
  ∃ h',B8n q m (pV g.length 0) (pV (g.length+1) 0) (pV (g.length+2) 0) (iV (i:Int)) (g++[rT (B4 b),rT (encI (0::zI 32)),rT (encI (getD b::N7 b i))]) =
   A4 (.t [.a (encI (bif U8 b then getD b::N7 b 32 else 0::zI 32)),.c (.i .i64 (bif U8 b then 0 else 14))],h')
 | e,i,0,_,hm=>by omega
 | 0,i,m+1,hi,hm=>by
  have e0:i=32:=by omega
  subst e0;have c0:¬ ((32:Nat):Int)<32:=by omega
  have hB:(B4 b).length=256:=by rw [A9,hb]
  have ht:=lD (b:=b) (n:=32) (E7b _);have hX:=E3 (d:=getD b) ht;have hZ:(encI (0::zI 32)).length=33:=E3 (d:=0) I8;have hz0:(E68 256 (Cell.i .u8 0)).length=256:=E7B;have hP:=λh=>B8p (d:=getD b) (t:=N7 b 32) (h:=h) ht
  have hM:=λh=>dV (d:=getD b) (h:=h) ht
  have C7W:=O6 (getD b);have haf:E4 (encI (0::zI 32)) []=A4 (encI (0::zI 32)):=rfl;unfold U8;rw [A8A,B2e];cases co:okX (getD b) (N7 b 32) with
  | false =>
   rw [co] at hP;simp only [cond_false] at hP;have hzz:(B4 (zeros 256)).length=256:=by rw [A9];exact zeros_length
   rw [E7f,cond_false,cond_false];generalize encI (0::zI 32)=z at *;generalize encI (getD b::N7 b 32)=y at *;generalize E68 256 (Cell.i .u8 0)=zz at *;generalize zeros 256=zzz at *;exact ⟨_,by simp only [esc,esh,Nat.reduceAdd,Nat.reduceMul,Nat.reduceLT,c0,hX,hP,hz0,hzz,haf,hZ,show decide ((1:Int)=0)=A6 from rfl]<;>rfl⟩
  | true =>
   rw [co] at hP;simp only [cond_true] at hP;rw [E7j];have O9:=lJ (d:=getD b) ht;have hI:(B4 (fU (getD b) (N7 b 32))).length=256:=by rw [A9,O9]
   have hE:=D4c (n:=256) O9 hb;by_cases ce:fU (getD b) (N7 b 32)=b
   ·rw [decide_eq_true ce,E7j];rw [decide_eq_true ce] at hE;obtain ⟨h',e⟩:=E0n (b:=b) (d:=getD b) (t:=N7 b 32) (ix:=g.length+2) (iz:=g.length+1) (q:=q) (h:=g++[rT (B4 b),rT (encI (0::zI 32)),rT (encI (getD b::N7 b 32)),rT (B4 (fU (getD b) (N7 b 32)))]) ht (by simp) (by simp) (32-D1 (getD b)) (D1 (getD b)) q (by omega) (by omega);refine ⟨h',?_⟩;generalize A1R (N7 b 32) (D1 (getD b)) (32-D1 (getD b))=R at *;generalize fU (getD b) (N7 b 32)=I at *;generalize getD b::N7 b 32=Y at *;generalize encI (0::zI 32)=z at *;generalize E68 256 (Cell.i .u8 0)=zz at *;simp only [esc,esh,Nat.reduceAdd,Nat.reduceMul,Nat.reduceLT,c0,hX,hP,hz0,hI,hB,hE,hM];exact e
   ·rw [decide_eq_false ce,E7f,cond_false,cond_false];rw [decide_eq_false ce] at hE;generalize fU (getD b) (N7 b 32)=I at *;generalize encI (0::zI 32)=z at *;generalize encI (getD b::N7 b 32)=y at *;generalize E68 256 (Cell.i .u8 0)=zz at *;exact ⟨_,by simp only [esc,esh,Nat.reduceAdd,Nat.reduceMul,Nat.reduceLT,c0,hX,hP,hz0,hI,hB,hE,haf,hZ]<;>rfl⟩
 | e+1,i,m+1,hi,hm=>by
  obtain ⟨h',ih⟩:=E0m (g:=g) (q:=q) hb hq e (i+1) m (by omega) (by omega);have c0:(i:Int)<32:=by omega
  have hB:(B4 b).length=256:=by rw [A9,hb]
  have ht:=lD (b:=b) (n:=i) (by omega);have hX:=E3 (d:=getD b) ht;have hA:=λh=>nG (h:=h) hb (a:=((32+2*i:Nat):Int)) (w:=2)
  have ea:=D2S (b:=b) (a:=32+2*i) (w:=2) (by omega) (by omega) (by omega);rw [show ((2:Nat):Int)=2 from rfl] at ea;rw [ea] at hA;have w1:IntKind.wrap .i64 (2*(i:Int))=((2*i:Nat):Int):=by rw [wrap_i64 (by omega) (by omega)];omega
  have w2:IntKind.wrap .i64 (32+((2*i:Nat):Int))=((32+2*i:Nat):Int):=by rw [wrap_i64 (by omega) (by omega)];omega
  have a1:=adX (id:=g.length+2) (i:=i) (by omega);have hs:(encI (getD b::N7 b i)).set (1+i) (.i .i64 (fieldN b (32+2*i) 2))=encI (getD b::N7 b (i+1)):=by rw [B73,D1G (by omega)];rfl
  have V5:1+i<(encI (getD b::N7 b i)).length:=by rw [hX];omega
  rw [A8A];generalize U8 b=G at *;generalize getD b::N7 b 32=Y at *;generalize encI (getD b::N7 b (i+1))=y1 at *;generalize encI (getD b::N7 b i)=y at *;generalize encI (0::zI 32)=z at *;refine ⟨h',?_⟩;simp only [esc,esh,Nat.reduceAdd,Nat.reduceMul,Nat.reduceLT,c0,hB,w1,w2,hA,a1,V5,hs,D3 (show i+1<9223372036854775808 by omega)];exact ih
theorem D3c {b:List UInt8} {h:B5} (hb:b.length=256):B0l [.a (B4 b)] h=A4 (.t [.a (encI (bif U8 b then getD b::N7 b 32 else 0::zI 32)),.c (.i .i64 (bif U8 b then 0 else 14))],h):=by
 have key:∀ N,32<N->∀ g,∃ g',A9w N [.a (B4 b)] g=A4 (.t [.a (encI (bif U8 b then getD b::N7 b 32 else 0::zI 32)),.c (.i .i64 (bif U8 b then 0 else 14))],g'):=by
  intro N hN g;have hB:(B4 b).length=256:=by rw [A9,hb]
  have hZ:(encI (0::zI 32)).length=33:=E3 (d:=0) I8;have hA:=λh=>nG (h:=h) hb (a:=4) (w:=1)
  have ea:=D2S (b:=b) (a:=4) (w:=1) (by omega) (by omega) (by omega);rw [show ((4:Nat):Int)=4 from rfl,show ((1:Nat):Int)=1 from rfl] at ea;rw [ea] at hA;have ef:E4 (encI (0::zI 32)) [(0,1,iV (fieldN b 4 1))]=A4 (encI (getD b::N7 b 0)):=by
   have e1:(0+1<=(encI (0::zI 32)).length):=by rw [hZ];omega
   simp only [E4,cells?];rw [if_pos ⟨rfl,e1⟩];rfl
  have hX:=E3 (d:=getD b) (lD (b:=b) (n:=0) (by omega));obtain ⟨h',e⟩:=E0m (g:=g) (q:=N) hb hN 32 0 N (by omega) hN;rw [C5N,B2e];generalize U8 b=G at *;generalize getD b::N7 b 32=Y at *;generalize encI (getD b::N7 b 0)=y at *;generalize encI (0::zI 32)=z at *;exact ⟨h',by simp only [esc,esh,Nat.reduceAdd,Nat.reduceMul,Nat.reduceLT,hB,hZ,hA,ef,hX];exact e⟩
 obtain ⟨g',e⟩:=key (h.length+33) (by omega) (ro h);refine C0i e ?_;cases U8 b<;>simp
def xO (t:List Int) (i:Nat):Bool:=!decide (toX t i=0)&&nV t i
def L8 (t:List Int) (k:Nat):List Int:=((E7C k).filter (xO t)).map (toX t)
theorem A0N {t:List Int} {k:Nat}:L8 t (k+1)=L8 t k++(if xO t k=A5 then [toX t k] else []):=by
 unfold L8;rw [List.range_succ,List.filter_append,E71,List.filter_cons];by_cases c:xO t k=A5<;>simp [c]
theorem gE (t:List Int) (k:Nat):(L8 t k).length<=k:=by
 unfold L8;rw [List.length_map];exact E7K (List.length_filter_le _ _) (by simp)
theorem A7j {d:Int} {t:List Int} {g:B5} {n q:Nat} (ht:t.length=32) (hn:n<=32):∀ (e i m:Nat) (h:B5) (id:Nat),i+e=n->e<m->Low (g++[rT (encI (d::t))]).length (g++[rT (encI (d::t))]) h->(g++[rT (encI (d::t))]).length<=id->rd h id=rT (encI (L8 t i)) ->
  ∃ v h',vK q m (pV g.length 0) (sV id 0 (L8 t i).length 1) (iV (n:Int)) (iV (i:Int)) h=A4 (v,h')/\Out g.length h' v 1 (L8 t n).length (encI (L8 t n))
 | e,i,0,h,id,_,hm,_,_,_=>by omega
 | 0,i,m+1,h,id,hi,hm,hlow,hid,hr=>by
  have e0:i=n:=by omega
  subst e0;have c0:¬ (i:Int)<i:=by omega
  rw [E7a] at hid;rw [zR];exact ⟨_,_,by simp only [esc,c0]<;>rfl,by rw [B7];omega,_,rfl,by omega,hr⟩
 | e+1,i,m+1,h,id,hi,hm,hlow,hid,hr=>by
  have c0:(i:Int)<n:=by omega
  have hB:=E3 (d:=d) ht;have hrd:rd h g.length=rT (encI (d::t)):=hlow.rd (by simp);have s1:=C7 (h:=h) (id:=g.length) (cs:=encI (d::t)) hrd hB;have a1:=adX (id:=g.length) (i:=i) (by omega);have l1:=ldX (h:=h) (id:=g.length) hrd ht (i:=i) (by omega);have hFs:=λh=>B1D (d:=d) (t:=t) (i:=i) (h:=h) ht (by omega)
  have w1:=D3 (show i+1<9223372036854775808 by omega);have hul:=gE t i;rw [zR];have skip:xO t i=A6->∃ v h',vK q m (pV g.length 0) (sV id 0 (L8 t i).length 1) (iV (n:Int)) (iV ((i+1:Nat):Int)) h=A4 (v,h')/\Out g.length h' v 1 (L8 t n).length (encI (L8 t n)):=by
   intro c;have hu:L8 t (i+1)=L8 t i:=by rw [A0N,c];simp
   have:=A7j (q:=q) ht hn e (i+1) m h id (by omega) (by omega) hlow hid (by rw [hu];exact hr);rw [hu] at this;exact this
  by_cases cz:toX t i=0
  ·obtain ⟨v,h',f1,f2⟩:=skip (by unfold xO;rw [decide_eq_true cz];rfl);rw [cz] at l1;refine ⟨v,h',?_,f2⟩;generalize encI (d::t)=z at *;simp only [esc,c0,a1,l1,nW,w1];exact f1
  ·cases cs:nV t i with
   | false =>
    obtain ⟨v,h',f1,f2⟩:=skip (by unfold xO;rw [cs,E75]);rw [cs] at hFs;refine ⟨v,h',?_,f2⟩;generalize encI (d::t)=z at *;simp only [esc,c0,a1,l1,cz,s1,hFs,nW,w1];exact f1
   | true =>
    rw [cs] at hFs;have cb:xO t i=A5:=by unfold xO;rw [cs,decide_eq_false cz];rfl
    have hu:L8 t (i+1)=L8 t i++[toX t i]:=by rw [A0N,if_pos cb]
    obtain ⟨h1,b1,b2,b3,b4,b5⟩:=push (ys:=[.i .i64 (toX t i)]) (sz:=1) (n:=(L8 t i).length) hlow hr (by rw [B7];omega) hid rfl (by omega) (by omega);have he:encI (L8 t i)++[.i .i64 (toX t i)]=encI (L8 t (i+1)):=by rw [hu];simp [encI]
    rw [he] at b2;obtain ⟨v,h',f1,f2⟩:=A7j (q:=q) ht hn e (i+1) m h1 (h.length+1) (by omega) (by omega) b3 b4 b2;have hl1:(L8 t (i+1)).length=(L8 t i).length+1:=by rw [hu];simp
    rw [hl1] at f1;have ef:E4 [o0] [(0,1,iV (toX t i))]=A4 [.i .i64 (toX t i)]:=rfl;refine ⟨v,h',?_,f2⟩;generalize encI (d::t)=z at *;simp only [esc,c0,a1,l1,cz,s1,hFs,ef,b1,nW,w1];exact f1
theorem vJ {d:Int} {t:List Int} {h:B5} (ht:t.length=32):yT [.a (encI (d::t))] h=A4 (sV h.length 0 (L8 t (D1 d)).length 1,h++[rT (encI (L8 t (D1 d)))]):=by
 have key:∀ N,32<N->∀ g,∃ v g',yP N [.a (encI (d::t))] g=A4 (v,g')/\Out g.length g' v 1 (L8 t (D1 d)).length (encI (L8 t (D1 d))):=by
  intro N hN g;have hB:=E3 (d:=d) ht;have hM:=λh=>dV (d:=d) (h:=h) ht
  have hm:=O6 d;obtain ⟨v,g',f1,f2⟩:=A7j (g:=g) (d:=d) (q:=N) ht hm (D1 d) 0 N (g++[rT (encI (d::t)),rT [],rT []]) (g.length+2) (by omega) (by omega)
   (by have:=(Low.refl (h:=g++[rT (encI (d::t))]) (E7b _)).new [rT [],rT []];simpa using this) (by simp) (by simp [L8,encI])
  rw [show L8 t 0=[] from rfl] at f1;rw [B4J];refine ⟨v,g',?_,f2⟩;generalize encI (d::t)=z at *;simp only [esc,esh,Nat.reduceAdd,Nat.reduceMul,Nat.reduceLT,hB,hM] at f1 ⊢;exact f1
 obtain ⟨v,g',e,ho⟩:=key (h.length+33) (by omega) (ro h);exact B2Z e (by simpa [F7] using ho) (by simp)
def D0p (h:Nat) (b:Int):Nat:=if b<1 then 0 else if 32<=b then h else h%2 ^ b.toNat
theorem D6B {x:Nat} {b:Int} {h:B5} (hx:x<4294967296):C0s [.c (.i .u32 (x:Int)),iV b] h=A4 (iV (D0p x b:Nat),h):=by
 have key:∀ g,∃ g',B9C 0 [.c (.i .u32 (x:Int)),iV b] g=A4 (iV (D0p x b:Nat),g'):=by
  intro g;rw [D2x];unfold D0p;by_cases c1:b<1
  ·rw [if_pos c1];exact ⟨_,by simp only [esc,c1]<;>rfl⟩
  ·rw [if_neg c1];have w1:IntKind.wrap .i64 (x:Int)=(x:Int):=wrap_i64 (by omega) (by omega);by_cases c2:32<=b
   ·rw [if_pos c2];exact ⟨_,by simp only [esc,c1,c2,w1]<;>rfl⟩
   ·rw [if_neg c2];obtain ⟨k,rfl⟩:∃ k:Nat,b=k:=⟨b.toNat,by omega⟩;have hk:k<32:=by omega
    rw [E7r];have w2:=C1o (k:=k) (by omega);have hp:2 ^ k<=2 ^ 31:=Nat.pow_le_pow_right (by omega) (by omega);have hp0:0<2 ^ k:=Nat.pow_pos (by omega);have e1:O4 .shl (.c (.i .u32 1)) (.c (.i .u64 (k:Int)))=A4 (.c (.i .u32 ((2 ^ k:Nat):Int))):=by
     rw [B7R (by omega)];have h1:Nat.min (k:Int).toNat (IntKind.u32).bits=k:=by
      have:(IntKind.u32).bits=32:=rfl;rw [this,E7r];exact E73 (by omega)
     rw [h1,Int.one_mul];have e:(2:Int) ^ k=((2 ^ k:Nat):Int):=by simp
     rw [e];generalize 2 ^ k=y at hp hp0 ⊢;rw [wrap_u32 (by omega) (by omega)]
    have w3:IntKind.wrap .u32 (((2 ^ k:Nat):Int)-1)=((2 ^ k-1:Nat):Int):=by rw [wrap_u32 (by omega) (by omega)];omega
    have e2:=E1T (a:=x) (b:=2 ^ k-1) hx (by omega);rw [Nat.and_two_pow_sub_one_eq_mod] at e2;have hm:x%2 ^ k<2 ^ k:=Nat.mod_lt _ hp0;have w4:IntKind.wrap .i64 ((x%2 ^ k:Nat):Int)=((x%2 ^ k:Nat):Int):=wrap_i64 (by omega) (by omega);generalize 2 ^ k-1=y at *;generalize x%2 ^ k=z at *;exact ⟨_,by simp only [esc,c1,c2,w2,e1,w3,e2,w4]<;>rfl⟩
 obtain ⟨g',e⟩:=key (ro h);exact C6A e rfl
theorem C71 {d:Int} {t:List Int} {x:Nat} {h:B5} (ht:t.length=32) (hx:x<4294967296):A3V [.a (encI (d::t)),.c (.i .u32 (x:Int))] h=A4 (iV (x%D1 d:Nat),h):=by
 have key:∀ g,∃ g',A3w 0 [.a (encI (d::t)),.c (.i .u32 (x:Int))] g=A4 (iV (x%D1 d:Nat),g'):=by
  intro g;have hB:=E3 (d:=d) ht;have hD:=λh=>bW (d:=d) (t:=t) (h:=h)
  have hL:=λh=>D6B (x:=x) (b:=(W1 d:Nat)) (h:=h) hx
  have e:D0p x (W1 d:Nat)=x%D1 d:=by
   unfold D0p D1;have:=sC d;rw [E7r];by_cases c:((W1 d:Nat):Int)<1
   ·have:W1 d=0:=by omega
    rw [if_pos c,this];simp [Nat.mod_one]
   ·rw [if_neg c,if_neg (by omega)]
  rw [e] at hL;rw [B9u];generalize encI (d::t)=y at *;exact ⟨_,by simp only [esc,esh,Nat.reduceAdd,Nat.reduceMul,Nat.reduceLT,hB,hD,hL]<;>rfl⟩
 obtain ⟨g',e⟩:=key (ro h);exact B5l e rfl
theorem D0k (b:List UInt8):(N7 b 32).length=32:=by simp [N7,zI]
noncomputable section
variable (n m m2:Nat) (a0 a1 x0 x1 x2 x3 x4 x6 x7 x8 x9 x10 x18 x19 x21 x22:Val) (h:B5)
def mT:FD A8:=⟨px 0X1121121229c2e156e04b7d218011d21121224632e2a82b627a7f17a68b1c7a307a3601f627c06881c003911a4a2e2d0421c8311a022e2d3042152e2d033070242e2d0331a617c12f2e2d0422e2d03060510638802c132e2d03203011d21121224631e2a81b62487f048360631e2a8762387f038360632a2a81c9651e7f61e38b01e3605617c6388041282b0220131211012,[.c (.b A5),.c (.s [46]),.c (.s [46,46]),.c (.i .u8 0),.c (.i .u8 47)],[.idxS (.t 25) (.t 26),.idxS (.t 30) (.t 31)],[.tmp 2],[]⟩
def B64:=mT.R
def B4c:AtH:=mT.lj 0 n [m] [x0,x21,x22]
def B7O:=tT [⟨2,3,B4c⟩]
def C3G:=mR B64 mT B7O n [a0] h
def A5M:=mL mT B7O 0 n [m] [x0,x21,x22] h
def B6M:=mT.K Tryz.func243
def A67:=mT.S
theorem A8f:SOk A8 243 A67:=B6M.sok
theorem B7y:F6 B64 A67:=B6M.flat
def pJ:FD A8:=⟨px 0X1131218391de28393d39332221e82b154e07c218621fa2a2813928c0688380006507c382e17181ac611a022b2a642062152b2a42053070242b2a420531a617c12c2b2a420622b2a420506051063880032b2a420524223621fa16a13928c64f8638801d154203201683165a391de3e03e393843222241637c2a19121a54205248516101ac0713542042420331e2d8142032101e22d922022,[],[.idxS (.t 24) (.t 25)],[.cellN 2 25,.tmp 3],[cal A8f]⟩
def A9C:=pJ.R
def B8E:AtH:=pJ.lj 0 n [m] [x0,x2,x4,x18,x19]
def C2n:=tT [⟨2,5,B8E⟩]
def C5T:=mR A9C pJ C2n n [a0] h
def A8K:=mL pJ C2n 0 n [m] [x0,x2,x4,x18,x19] h
def C1S:=pJ.K Tryz.func244
def B0t:=pJ.S
theorem B0u:SOk A8 244 B0t:=C1S.sok
theorem C0u:F6 A9C B0t:=C1S.flat
def wC:FD A8:=⟨px 0X1101ec212c3d133222011d03212322224672a2a826868b439683b3839683b601637c7e2e173c5221ac01a82391de1e62d912a6801e2c6919c2916101ac6e2a11876514251318851168806886507c4e1d155122011d032123222241c9657c3e1b121c41324123584164dc61c141391828d44122103062ec3112,[.c (.s []),.c (.b A5)],[.slA 25 1 (.t 1) (A4 (.v (.c (.i .i64 1)))) (A4 (.t 14)),.b2s (.t 15),.eqA A5 (E68 25 (.i .u8)) (.t 25) (.t 26)],[.tmp 2,.tmp 3],[cal B0u]⟩
def A3D:=wC.R
def B9D:=mR A3D wC (tT []) n [a0] h
def B3n:=wC.K Tryz.func237
def A33:=wC.S
theorem C0v:SOk A8 237 A33:=B3n.sok
theorem B5w:F6 A3D A33:=B3n.flat
def A2h:FD A8:=⟨px 0X13c4161a17c4000441234111022,[.c (.b A6)],[],[.tmp 4],[]⟩
def C2d:=A2h.R
def C5S:=mR C2d A2h (tT []) n [a0,a1] h
def C1R:=A2h.K Tryz.func242
def B0s:=A2h.S
theorem C6C:SOk A8 242 B0s:=C1R.sok
theorem C0t:F6 C2d B0s:=C1R.flat
def mU:FD A8:=⟨px 0X12cc011ec41363e2a861a218d7f418d3618d1f61a118d19b3818d3018d36061e17c61c800380383d11e01954231e871483c12181dc615607c4803182461a201ac4061c61a11986e002c16391876106219c18162e07c1961a7c61a77c5a04a04a0718761052150702461a17c2e02e1b131d7610527610437610406056103358016161c8019147610423014121022,[.c (.b A6)],[],[.tmp 4,.tmp 5],[cal C6C]⟩
def A6x:=mU.R
def A4z:AtH:=mU.lj 0 n [m] [x0,x1,x6,x7]
def B7P:=tT [⟨2,4,A4z⟩]
def C3H:=mR A6x mU B7P n [a0,a1] h
def A5N:=mL mU B7P 0 n [m] [x0,x1,x6,x7] h
def B6N:=mU.K Tryz.func213
def A0l:=mU.S
theorem C4n:SOk A8 213 A0l:=B6N.sok
theorem B7z:F6 A6x A0l:=B6N.flat
def gC:FD A8:=⟨px 0X12ac211c4d122122a81a155807c218621fa1a1e11982c03801c05182688116883801c006885607c3801c38170191a1918653631bc3161a13cc31013113fc1c041a191865362017246e2c112c1a1918653721a19186536319c01986112e6802a2a6918c1e161a201ac5e06a1f1181a19187653726c5161c1a2a119831a19185352151a19183411a070241a19183431a617c11b1a19183521a19183406051061c8018131a191834231313b813022123b91012,[.c (.s [])],[.slL 1 (.t 24) (A4 (.t 26)) A7,.slL 1 (.t 28) (A4 (.t 29)) A7,.copy 1 (.t 27) (.t 30)],[.tmp 2],[cal C4n]⟩
def A9D:=gC.R
def B8F:AtH:=gC.lj 0 n [m] [x3,x8,x9,x10]
def D3s:AtH:=gC.lj 1 n [m] [x3,x8,x9,x10]
def B0Q:=tT [⟨2,4,B8F⟩,⟨2,4,D3s⟩]
def C5U:=mR A9D gC B0Q n [a0] h
def A8M:=mL gC B0Q 0 n [m] [x3,x8,x9,x10] h
def A8L:=mJ gC B0Q 1 n [m] [x3,x8,x9,x10] h
def C1T:=gC.K Tryz.func167
def B0v:=gC.S
theorem C6D:SOk A8 167 B0v:=C1T.sok
theorem C4o:oP A9D B0v:=C1T.out
end
def bU (c:UInt8):Bool:=!(decide ((c.toNat:Int)=0)||decide ((c.toNat:Int)=47))
def V4 (s:List UInt8):Bool:=!(decide ((s.length:Int)<1)||decide (24<(s.length:Int))||decide (s=[46])||decide (s=[46,46]))&&s.all bU
theorem cX {s:List UInt8} (h:V4 s=A5):1<=s.length/\s.length<=24:=by
 unfold V4 at h;simp at h;omega
theorem C7h (s:List UInt8) (hs:s.length<9223372036854775807) (n:Nat) (h:B5):∀ d i m:Nat,i+d=s.length->d<m ->
  B4c n m (.c (.s s)) (iV s.length) (iV i) h=A4 (iV (bif (s.drop i).all bU then 0 else 3),h)
 | d,i,0,_,hm=>by omega
 | 0,i,m+1,hi,hm=>by
  have c0:¬ ((i:Int)<s.length):=by omega
  rw [A5M,show s.drop i=[] from E7k (by omega)];simp only [esc,c0,List.all_nil]
 | d+1,i,m+1,hi,hm=>by
  have h1:(i:Int)<s.length:=by omega
  have h2:i<s.length:=by omega
  have ih:=C7h s hs n h d (i+1) m (by omega) (by omega);rw [A5M,E7d h2,E7P];by_cases c1:(s[i].toNat:Int)=0
  ·have f:bU s[i]=A6:=by unfold bU;rw [decide_eq_true c1];rfl
   simp only [esc,h1,jX h2,c1,f,E7f]
  ·by_cases c2:(s[i].toNat:Int)=47
   ·have f:bU s[i]=A6:=by unfold bU;rw [decide_eq_true c2];simp
    simp only [esc,h1,jX h2,c1,c2,f,E7f,Int.reduceEq]
   ·have f:bU s[i]=A5:=by unfold bU;rw [decide_eq_false c1,decide_eq_false c2];rfl
    simp only [esc,h1,jX h2,c1,c2,f,E7j,D3 (show i+1<9223372036854775808 by omega)];exact ih
theorem C7g {s:List UInt8} (hs:s.length<9223372036854775807) (h:B5):A67 [.c (.s s)] h=A4 (iV (bif V4 s then 0 else 3),h):=by
 refine B7y (n:=s.length+1) (h2:=ro h) ?_ rfl;rw [C3G];have hl:=C7h s hs (s.length+1) (ro h) s.length 0 (s.length+1) (by omega) (by omega);rw [E7p] at hl;unfold V4;by_cases c1:(s.length:Int)<1
 ·simp only [esc,c1,Bool.true_or,E7f]
 ·by_cases c2:(24:Int)<s.length
  ·simp only [esc,c1,c2,Bool.true_or,E7f,Bool.or_true]
  ·by_cases c3:s=[46]
   ·subst c3;simp only [esc];rfl
   ·by_cases c4:s=[46,46]
    ·subst c4;simp only [esc];rfl
    ·simp only [esc,c1,c2,c3,c4,Bool.or_self,E7j];exact hl
def iO (s:List UInt8) (i:Nat):List UInt8:=UInt8.ofNat s.length::(s.take i++zeros (24-i))
def W8 (s:List UInt8):List UInt8:=bif V4 s then iO s s.length else zeros 25
theorem nH {s:List UInt8} {i:Nat} (hi:i<=s.length) (hs:s.length<=24):(iO s i).length=25:=by
 unfold iO;rw [E7g,E7a,zeros_length,E7A];omega
theorem hJ {s:List UInt8}:(W8 s).length=25:=by
 unfold W8;cases hf:V4 s with
 | false=>exact zeros_length
 | true=>exact nH (E7b _) (cX hf).2
theorem D8W {s:List UInt8} {i:Nat} (hi:i<s.length) (hs:s.length<=24):(iO s i).set (1+i) s[i]=iO s (i+1):=by
 unfold iO;rw [Nat.add_comm 1 i,E7U];refine congrArg (UInt8.ofNat s.length :: ·) ?_;have hlen:(List.take i s).length=i:=by simp;omega
 rw [E7I _ _ (by omega),hlen,E7R,E7n hi,E7c];refine congrArg (List.take i s ++ ·) ?_;have e:24-i=(24-(i+1))+1:=by omega
 rw [e];unfold zeros;rw [E7z,E7T];rfl
theorem D1X (s:List UInt8) (hs:s.length<=24) (h:B5) (c2:List Cell) (l2:c2.length=25) (n:Nat):∀ d i m:Nat,i+d=s.length->d<m ->
  B8E n m (.c (.s s)) (pV h.length 0) (pV (h.length+1) 0) (iV s.length) (iV i) (h++[rT c2,rT (B4 (iO s i))]) =
   A4 (.t [.a (B4 (iO s s.length)),.c o0],h++[rT (B4 (iO s s.length)),rT (B4 (iO s s.length))])
 | d,i,0,_,hm=>by omega
 | 0,i,m+1,hi,hm=>by
  have h1:¬ ((i:Int)<s.length):=by omega
  have e:i=s.length:=by omega
  subst e;have hl:(B4 (iO s s.length)).length=25:=by rw [A9];exact nH (E7b _) hs
  rw [A8K];simp only [esc,esh,Nat.reduceAdd,Nat.reduceMul,Nat.reduceLT,h1,hl,l2]
 | d+1,i,m+1,hi,hm=>by
  have h1:(i:Int)<s.length:=by omega
  have h3:i<s.length:=by omega
  have hl:(B4 (iO s i)).length=25:=by rw [A9];exact nH (by omega) hs
  have ih:=D1X s hs h c2 l2 n d (i+1) m (by omega) (by omega);have e1:IntKind.wrap .i64 (1+(i:Int))=((1+i:Nat):Int):=by rw [wrap_i64 (by omega) (by omega)];omega
  have ea:J8 25 1 (pV (h.length+1) 0) (iV ((1+i:Nat):Int))=A4 (pV (h.length+1) (1+i)):=by rw [J4 (by omega)];simp
  have ho:1+i<(B4 (iO s i)).length:=by omega
  rw [A8K];simp only [esc,esh,Nat.reduceAdd,Nat.reduceMul,Nat.reduceLT,h1,e1,jX h3,ea,ho,iI,D8W h3 hs,D3 (show i+1<9223372036854775808 by omega)];exact ih
theorem D7N {s:List UInt8} (hs:s.length<9223372036854775807) (h:B5) :
  B0t [.c (.s s)] h=A4 (.t [.a (B4 (W8 s)),.c (.i .i64 (bif V4 s then 0 else 3))],h):=by
 have key:∀ g,∃ g',A9C (s.length+1) [.c (.s s)] g=A4 (.t [.a (B4 (W8 s)),.c (.i .i64 (bif V4 s then 0 else 3))],g'):=by
  intro g;have hz:=I7 25;have hl:(B4 (zeros 25)).length=25:=by rw [A9];exact zeros_length
  rw [C5T,hz];unfold W8;cases hf:V4 s with
  | false =>
   generalize zeros 25=Z at *;exact ⟨_,by simp only [esc,esh,Nat.reduceAdd,Nat.reduceMul,Nat.reduceLT,C7g hs,hf,hl,Int.reduceEq]<;>rfl⟩
  | true =>
   have E6s:=(cX hf).2;have e0:(B4 (zeros 25)).set 0 (.i .u8 (IntKind.wrap .u8 s.length))=B4 (iO s 0):=by
    rw [wrap_u8 (by omega) (by omega)];have:((s.length:Nat):Int)=((UInt8.ofNat s.length).toNat:Int):=by rw [UInt8.toNat_ofNat'];omega
    rw [this,iI];rfl
   have:=D1X s E6s g (B4 (zeros 25)) hl (s.length+1) s.length 0 (s.length+1) (by omega) (by omega);rw [<-e0] at this;generalize zeros 25=Z at *;have a0:J8 25 1 (pV (g.length+1) 0) (iV 0)=A4 (pV (g.length+1) 0):=rfl;have ho:0<(B4 Z).length:=by omega
   exact ⟨_,by simp only [esc,esh,Nat.reduceAdd,Nat.reduceMul,Nat.reduceLT,C7g hs,hf,a0,ho];exact this⟩
 obtain ⟨g',e⟩:=key (ro h);exact C0u e (by simp)
def dM (l:List UInt8):Option (List UInt8) :=
 if (l.headD 0).toNat<=24 then
  if V4 ((l.drop 1).take (l.headD 0).toNat)=A5/\W8 ((l.drop 1).take (l.headD 0).toNat)=l then A4 ((l.drop 1).take (l.headD 0).toNat) else A7
 else A7
theorem D9p {l:List UInt8} (hl:l.length=25) (h:B5) :
  A33 [.a (B4 l)] h=A4 (.t [.c (.s ((dM l).getD [])),.c (.i .i64 (if (dM l).isSome then 0 else 3))],h):=by
 have key:∀ g,∃ g',A3D 0 [.a (B4 l)] g=A4 (.t [.c (.s ((dM l).getD [])),.c (.i .i64 (if (dM l).isSome then 0 else 3))],g'):=by
  intro g;obtain ⟨x,r,rfl⟩:∃ x r,l=x::r:=by
   cases l with
   | nil=>simp at hl
   | cons x r=>exact ⟨x,r,rfl⟩
  have hx:=x.toNat_lt;rw [B9D];have a0:J8 25 1 (pV g.length 0) (iV 0)=A4 (pV g.length 0):=rfl;have l0:(B4 (x::r))[0]?=A4 (.i .u8 x.toNat):=rfl;have e1:IntKind.wrap .i64 (x.toNat:Int)=x.toNat:=wrap_i64 (by omega) (by omega);have cC:(B4 (x::r)).length=25:=by rw [A9,hl]
  unfold dM;simp only [List.headD_cons,List.drop_succ_cons,E7p];by_cases c1:x.toNat<=24
  ·rw [if_pos c1];have c1':¬ (24:Int)<x.toNat:=by omega
   have e2:IntKind.wrap .i64 (1+(x.toNat:Int))=((1+x.toNat:Nat):Int):=by rw [wrap_i64 (by omega) (by omega)];omega
   have e3:=E4H (h:=g) (l:=[rT (B4 (x::r))]) (k:=0) (n:=25) (a:=1) (b:=1+x.toNat) (cs:=B4 (x::r)) rfl cC (by omega) (by omega);rw [Nat.add_zero,show 1+x.toNat-1=x.toNat by omega,show ((1:Nat):Int)=1 from rfl] at e3;have hh:Has (g++[rT (B4 (x::r))]) (sV g.length 1 x.toNat 1) 1 x.toNat (B4 (r.take x.toNat)):=Has.part T9 (by omega) (by
    rw [D1w,D1x];simp) (F9 _)
   have hs:(r.take x.toNat).length<9223372036854775807:=by simp;omega
   have hp:=D7N hs (g++[rT (B4 (x::r))]);have hpl:(B4 (W8 (r.take x.toNat))).length=25:=by rw [A9,hJ]
   have hz:(E68 25 (Cell.i .u8 0)).length=25:=E7B;have hq:=D4c (l:=W8 (r.take x.toNat)) (m:=x::r) hJ hl;generalize E68 25 (Cell.i .u8 0)=z at *;cases hf:V4 (r.take x.toNat) with
   | false =>
    rw [hf] at hp;rw [if_neg (by simp)];exact ⟨_,by simp only [esc,esh,Nat.reduceAdd,Nat.reduceMul,Nat.reduceLT,a0,l0,e1,c1',e2,e3,hh.str,hp,hpl,hz,Int.reduceEq,E7Z,E7x,Bool.false_eq_true]<;>rfl⟩
   | true =>
    rw [hf] at hp;by_cases c2:W8 (r.take x.toNat)=x::r
    ·rw [if_pos ⟨rfl,c2⟩];exact ⟨_,by simp only [esc,esh,Nat.reduceAdd,Nat.reduceMul,Nat.reduceLT,a0,l0,e1,c1',e2,e3,hh.str,hp,hpl,hz,cC,hq,decide_eq_true c2,Int.reduceEq,E7N,E7o,Bool.false_eq_true]<;>rfl⟩
    ·rw [if_neg (λh=>c2 h.2)];exact ⟨_,by simp only [esc,esh,Nat.reduceAdd,Nat.reduceMul,Nat.reduceLT,a0,l0,e1,c1',e2,e3,hh.str,hp,hpl,hz,cC,hq,decide_eq_false c2,Int.reduceEq,E7Z,E7x,Bool.false_eq_true]<;>rfl⟩
  ·rw [if_neg c1];have c1':(24:Int)<x.toNat:=by omega
   exact ⟨_,by simp only [esc,esh,Nat.reduceAdd,Nat.reduceMul,Nat.reduceLT,a0,l0,e1,c1',E7Z,E7x,Bool.false_eq_true]<;>rfl⟩
 obtain ⟨g',e⟩:=key (ro h);exact B5w e (by simp)
noncomputable section
variable (n m m2:Nat) (a0 a1 a2 a3 x0 x1 x2 x3 x4 x6 x7 x11 x16 x17 x18 x34 x35 x36:Val) (h:B5)
def qL:FD A8:=⟨px 0X12c21628967c5607c0042121211012,[],[],[.tmp 2],[]⟩
def A01:=qL.R
def B6Q:=mR A01 qL (tT []) n [a0] h
def A9a:=qL.K Tryz.func216
def A1c:=qL.S
theorem qW:SOk A8 216 A1c:=A9a.sok
theorem B2R:F6 A01 A1c:=A9a.flat
def zV:FD A8:=⟨px 0X118821362a2a81889619397f6391f14394f60362a2a85641f7f61f1f141f4f601627c6101ac61c044c1f2123062ec2112,[.c (.b A6)],[],[.tmp 2],[cal A8f]⟩
def A6h:=zV.R
def C3j:=mR A6h zV (tT []) n [a0] h
def B6p:=zV.K Tryz.func215
def A6C:=zV.S
theorem yR:SOk A8 215 A6C:=B6p.sok
theorem B7c:F6 A6h A6C:=B6p.flat
def mE:FD A8:=⟨px 0X11cc2161a13cc71471371271171051a513fc1c2f142121b83161a13cc06881c2c1431219c01982391de1e42d912e6802a2a6918c1e16101ac61c041f4d1943226c316112e10218213fc64f8361c7c61c144c64f861c1464d19312213b862ec2112,[.c (.i .u64 8),.c (.i .u8 0)],[.slA 25 1 (.t 4) A7 A7],[.tmp 2],[cal B0u]⟩
def uG:=mE.R
def B2L:=mR uG mE (tT []) n [a0] h
def A4I:=mE.K Tryz.func217
def uL:=mE.S
theorem nT:SOk A8 217 uL:=A4I.sok
theorem A9N:oP uG uL:=A4I.out
def iR:FD A8:=⟨px 0X175122821de5826e39354220135122821de0293e83542224675a2a863a31ac7f211ac68b28961e351ac1af6101ac1af41ac3184881ac3b01ac68b6141ac1af5821ac3b60672a2a8619a2bf61319a1af58219a3b601637c4c4b1280196c1a4331a423298221de12901a2df6112e102293e81961e321ac6101ac401848838483d171191a19421531e801dc18112a6801e3b691d83816111ac3839393971918421521bc1b156a07c218621fa4a3813928c61c618148828c61a07c5e019607c6101ac403e1e11a186c711a021b7642162151b642153070241b6421531cd617c11c1b6421621b64215060511b111b6421526421431e2d81642142302942d9022ed342132,[.c (.b A6),.c (.b A5)],[.b2sN A7 (.t 44),.b2sN A7 (.t 49)],[.cellN 4 2,.tmp 5],[cal qW,cal C0v,cal xK,cal yR,cal nT,cal A68]⟩
def A3q:=iR.R
def B0Y:AtH:=iR.lj 0 n [m] [x1,x2,x4,x6,x11]
def B3C:=tT [⟨2,5,B0Y⟩]
def B9j:=mR A3q iR B3C n [a0,a1] h
def A2P:=mL iR B3C 0 n [m] [x1,x2,x4,x6,x11] h
def B29:=iR.K Tryz.func203
def A3P:=iR.S
theorem A4U:SOk A8 203 A3P:=B29.sok
theorem B4R:F6 A3q A3P:=B29.flat
def oG:FD A8:=⟨px 0X17311312241fa61e33cc63012c133fc1e33841c50230022ed22122,[.c (.b A6),.c (.b A5)],[],[.tmp 3],[]⟩
def A75:=oG.R
def A00:=mR A75 oG (tT []) n [a0,a1] h
def A7Z:=oG.K Tryz.func212
def oJ:=oG.Q
theorem B4P:SOk A8 212 oJ:=A7Z.ok
theorem A1b:OfT A75 oJ:=A7Z.of
def Q8:FD A8:=⟨px 0X1cc7153c07c2180124363e2a864b2bf612a4b5ef6211a1022c4b3eb7e24b3b7e4b344b3605a2811938721427c078221de2952d912e6802a1e696c1a161a201ac4a04e4881b3919765421624c411a02742142157213307024721333d617c1187214272130605171172132022ed12122,[.c (.b A6)],[],[],[cal A4U,cal B4P]⟩
def tF:=Q8.R
def sZ:O3:=Q8.E
def rW:AtH:=Q8.lj 0 n [m] [x1,x2,x7]
def tJ:TT:=⟨sZ,[⟨2,3,rW⟩]⟩
def A3n:=mR tF Q8 tJ n [a0,a1] h
def nO:=mL Q8 tJ 0 n [m] [x1,x2,x7] h
def tC:=Q8.K Tryz.func150
def jA:=Q8.Q
theorem A3M:SOk A8 150 jA:=tC.ok
theorem A3L:OfT tF jA:=tC.of
def vQ:FD A8:=⟨px 0X13c212a1c221261a201ac1a13ac5d8448838331222d81312233b862ec2112,[],[],[.tmp 2],[cal A3M]⟩
def wG:=vQ.R
def B9g:=mR wG vQ (tT []) n [a0] h
def A3k:=vQ.K Tryz.func165
def wH:=vQ.S
theorem A4T:SOk A8 165 wH:=A3k.sok
theorem B67:E3y wG wH:=A3k.low
theorem B68:oP wG wH:=A3k.out
def cP:FD A8:=⟨px 0X16c5162bc4e1c3512074a1fa24e31de3e3383182461a27c41c61c064c11a4c51a432423101a30042ed2432142,[.c (.b A6),.c (.b A5)],[],[.tmp 5],[]⟩
def A74:=cP.R
def C0U:AtH:=cP.lj 0 n [] [x3]
def A8h:=tT [⟨1,1,C0U⟩]
def A0Z:=mR A74 cP A8h n [a0,a1,a2,a3] h
def zO:=mJ cP A8h 0 n [] [x3] h
def A7Y:=cP.K Tryz.func151
def iG:=cP.Q
theorem B4N:SOk A8 151 iG:=A7Y.ok
theorem A1a:OfT A74 iG:=A7Y.of
def Q7:FD A8:=⟨px 0X1cc7153c07c2180124363e2a864b2bf612a4b5ef6211a1022c4b3eb7e24b3b7e4b344b3605a2811938721427c078221de2952d912e6802a1e696c1a161a201ac4a04e4881b3919765421624c411a02742142157213307024721333d617c1187214272130605171172132022ed12122,[.c (.b A6)],[],[],[cal A4U,cal B4N]⟩
def tE:=Q7.R
def sX:O3:=Q7.E
def rV:AtH:=Q7.lj 0 n [m] [x1,x2,x7]
def tH:TT:=⟨sX,[⟨2,3,rV⟩]⟩
def A3m:=mR tE Q7 tH n [a0,a1] h
def nN:=mL Q7 tH 0 n [m] [x1,x2,x7] h
def tB:=Q7.K Tryz.func150
def iZ:=Q7.Q
theorem A3K:SOk A8 150 iZ:=tB.ok
theorem A3J:OfT tE iZ:=tB.of
def vP:FD A8:=⟨px 0X1685112e11c164a31de2e1c2e338201b542361a201ac1a1e3a32af5d83a48838376432321fa42d8276432522c2d81643242302c2d842ec022ed443232,[.c (.b A6)],[],[.cellN 4 3,.tmp 5],[cal A3K]⟩
def A3l:=vP.R
def B9f:=mR A3l vP (tT []) n [a0,a1] h
def B26:=vP.K Tryz.func81
def A3I:=vP.S
theorem A4S:SOk A8 81 A3I:=B26.sok
theorem B4O:F6 A3l A3I:=B26.flat
def vR:FD A8:=⟨px 0X1204881de6101ac64ac1f131b12711310419413fc40121c02d91012,[.c (.i .u8 98),.c (.i .u8 107),.c (.i .u8 116),.c (.i .u8 33)],[],[.cellN 0 256],[cal A2J]⟩
def A3o:=vR.R
def B9h:=mR A3o vR (tT []) n [] h
def B27:=vR.K Tryz.func214
def A3N:=vR.S
theorem B9L:SOk A8 214 A3N:=B27.sok
theorem B4Q:F6 A3o A3N:=B27.flat
def cY:FD A8:=⟨px 0X11312184881de284886e39332223ac4c1518e06d7d218012d312184881de01c3e8332222461a37c3c061c04c684d46b4c4b4a42622fc02f8231de2c192d913a6802e5e692ec59161e251ac61c0484c284885a391a4c4b4a19742722c84821de2b87129182d962381e2e21981a064c4b4a1874272354c4b4a4253270244c4b4a42531a617c14d4c4b4a42624c4b4a42516251061c804a134c4b4a4252422328c2a157e07c2182284881de61e2e341ac26131ac382386121ac2c0284883b395019015312184881de01c3e8332222462bc6111ac3822f393392a2928654201922a2928654201831b83821de1a8512962d962381e2e21981a062a292865420182152a292842063070242a2928420631a617c12b2a2928420722a2928420606051061c8028132a292842062420337c24881de1c42d9001f1ad342032015d3126a4881de01c3e833222243d657c61c801b131d20322023101c22d922022,[],[],[.cellN 2 256,.tmp 3],[cal B9L,cal yR,cal qW,cal nT,cal A69,cal A4S]⟩
def A6f:=cY.R
def B3I:AtH:=cY.lj 0 n [m] [x0,x2,x4,x16,x17,x18]
def B3J:AtH:=cY.lj 1 n [m] [x2,x4,x34,x35,x36]
def A7d:=tT [⟨2,6,B3I⟩,⟨2,5,B3J⟩]
def C3h:=mR A6f cY A7d n [a0] h
def A5b:=mL cY A7d 0 n [m] [x0,x2,x4,x16,x17,x18] h
def A5c:=mL cY A7d 1 n [m] [x2,x4,x34,x35,x36] h
def B6n:=cY.K Tryz.func171
def A6A:=cY.S
theorem C3K:SOk A8 171 A6A:=B6n.sok
theorem B69:F6 A6f A6A:=B6n.flat
def vS:FD A8:=⟨px 0X117127a21de6111a1022d3e818061a07c406101ac01f118762201197124a21de02d3e83762224631e2a83d642c7f02c3601617c0061d621052621043102d62d92621042,[.c (.b A5)],[],[.cellN 6 2,.tmp 7],[cal qW]⟩
def A3p:=vS.R
def B9i:=mR A3p vS (tT []) n [a0,a1,a2] h
def B28:=vS.K Tryz.func218
def A3O:=vS.S
theorem B9M:SOk A8 218 A3O:=B28.sok
theorem B7b:E3y A3p A3O:=B28.low
def zU:FD A8:=⟨px 0X11bc5162821de11a680668611e321ac6111ac1c23802a11854220155126e21de02d3e83542224362a2a86392bf610391af5a2393b60361e2a83d61297f0293601647c001b284304243033102d2d8432ed343032,[.c (.b A6)],[],[.cellN 4 2,.tmp 5],[cal yR,cal nT,cal B9M]⟩
def A6g:=zU.R
def C3i:=mR A6g zU (tT []) n [a0,a1] h
def B6o:=zU.K Tryz.func172
def A6B:=zU.S
theorem C3L:SOk A8 172 A6B:=B6o.sok
theorem B7a:D7e A6g A6B:=B6o.tidy
end
theorem D3z {g:B5} {l l':List (Option Row)} {v:Val} {cs:List Cell} (hl:l'=l++[rT cs]):quiet (g++l) (A4 (v,g++l'))=A4 (v,g++l'):=by
 subst hl;have:=U3 ((Grows.rfl' (h:=g++l)).new cs) (v:=v);rw [E7c] at this;exact this
theorem E4A {g:B5} {a:Option Row} {v:Val} {cs:List Cell}:quiet (g++[a]) (A4 (v,g++[a,rT cs]))=A4 (v,g++[a,rT cs]):=D3z rfl
theorem E4B {g:B5} {a b:Option Row} {v:Val} {cs:List Cell}:quiet (g++[a,b]) (A4 (v,g++[a,b,rT cs]))=A4 (v,g++[a,b,rT cs]):=D3z rfl
theorem E08 {g:B5} {a b c d:Option Row} {v:Val} {cs:List Cell}:quiet (g++[a,b,c,d]) (A4 (v,g++[a,b,c,d,rT cs]))=A4 (v,g++[a,b,c,d,rT cs]):=D3z rfl
theorem E09 {g:B5} {a b c d e:Option Row} {v:Val} {cs:List Cell}:quiet (g++[a,b,c,d,e]) (A4 (v,g++[a,b,c,d,e,rT cs]))=A4 (v,g++[a,b,c,d,e,rT cs]):=D3z rfl
def K9 (k:Nat):Nat:=32+32*k
theorem oO {k:Nat} {h:B5} (hk:k<7):A1c [iV (k:Int)] h=A4 (iV (K9 k:Nat),h):=by
 have key:∀ g,∃ g',A01 0 [iV (k:Int)] g=A4 (iV (K9 k:Nat),g'):=by
  intro g;have w1:=D3 (show k+1<9223372036854775808 by omega);have w2:IntKind.wrap .i64 (32*((k+1:Nat):Int))=((K9 k:Nat):Int):=by unfold K9;rw [wrap_i64 (by omega) (by omega)];omega
  rw [B6Q];exact ⟨_,by simp only [esc,w1,w2]<;>rfl⟩
 obtain ⟨g',e⟩:=key (ro h);exact B2R e rfl
def B24:List UInt8:=[98,107,116,33]
def hdB:List UInt8:=O7 256 B24
theorem A7A:hdB.length=256:=I1 (by decide)
theorem C7c {h:B5}:A3N [] h=A4 (.a (B4 hdB),h):=by
 have key:∀ g,∃ g',A3o 0 [] g=A4 (.a (B4 hdB),g'):=by
  intro g;have hz:(B4 (zeros 256)).length=256:=by rw [A9];exact zeros_length
  have hd:(B4 hdB).length=256:=by rw [A9];exact A7A
  have ef:E4 [Cell.i .u8 0,.i .u8 0,.i .u8 0,.i .u8 0] [(0,1,.c (.i .u8 98)),(1,1,.c (.i .u8 107)),(2,1,.c (.i .u8 116)),(3,1,.c (.i .u8 33))]=A4 (B4 B24):=rfl;have hO:=B2E (data:=B24) (v:=sV (g.length+1) 0 4 1) (nv:=4) (h:=g++[rT (B4 (zeros 256)),rT (B4 B24)]) (Has.row (rw:=A5) (by simp) rfl (F9 _)) (by decide);rw [C8v (by decide),show O7 256 B24=hdB from rfl] at hO;have hM:zN (g++[rT (B4 (zeros 256)),rT (B4 B24)]) (sV (g.length+1) 0 4 1)=A4 (sV (g.length+1) 0 4 1):=by simp [zN]
  rw [B9h,I7];generalize hdB=B at *;generalize B4 B24=mg at *;generalize zeros 256=z at *;exact ⟨_,by simp only [esc,esh,Nat.reduceAdd,Nat.reduceMul,Nat.reduceLT,ef,hM,hO,hz,hd]<;>rfl⟩
 obtain ⟨g',e⟩:=key (ro h);exact B4Q e (by simp)
def A15 (s:List UInt8) (n:Int):Bool:=V4 s&&(decide (1<=n)&&decide (n<=128))
theorem A4e {s:List UInt8} {n:Int} {h:B5} (hs:s.length<9223372036854775807):A6C [.a [.s s,.i .i64 n]] h=A4 (bV (A15 s n),h):=by
 have key:∀ g,∃ g',A6h 0 [.a [.s s,.i .i64 n]] g=A4 (bV (A15 s n),g'):=by
  intro g;have hC:=λh=>C7g hs h
  rw [C3j];unfold A15;cases hf:V4 s with
  | false =>
   rw [hf] at hC;exact ⟨_,by simp only [esc,esh,Nat.reduceAdd,Nat.reduceMul,Nat.reduceLT,hC,Int.reduceEq]<;>rfl⟩
  | true =>
   rw [hf] at hC;by_cases c1:1<=n
   ·by_cases c2:n<=128
    ·rw [decide_eq_true c1,decide_eq_true c2];exact ⟨_,by simp only [esc,esh,Nat.reduceAdd,Nat.reduceMul,Nat.reduceLT,hC,c1,c2]<;>rfl⟩
    ·rw [decide_eq_true c1,decide_eq_false c2];exact ⟨_,by simp only [esc,esh,Nat.reduceAdd,Nat.reduceMul,Nat.reduceLT,hC,c1,c2]<;>rfl⟩
   ·rw [decide_eq_false c1];exact ⟨_,by simp only [esc,esh,Nat.reduceAdd,Nat.reduceMul,Nat.reduceLT,hC,c1]<;>rfl⟩
 obtain ⟨g',e⟩:=key (ro h);exact B7c e rfl
def Y2 (s:List UInt8) (n:Int):List UInt8:=B9 2 n++W8 s++[0,0,0,0,0]
theorem Y3 {s:List UInt8} {n:Int}:(Y2 s n).length=32:=by simp [Y2,hJ]
theorem rX {s:List UInt8} {n:Int} {h:B5} (hs:s.length<9223372036854775807):uL [.a [.s s,.i .i64 n]] h=A4 (sV h.length 0 32 1,h++[rT (B4 (Y2 s n))]):=by
 have key:∀ g,∃ v g',uG 0 [.a [.s s,.i .i64 n]] g=A4 (v,g')/\Out g.length g' v 1 32 (B4 (Y2 s n)):=by
  intro g;have e4:O4 .shr (iV n) (.c (.i .u64 8))=A4 (iV (n/256)):=C6X (by omega);have wm:∀ a:Int,IntKind.wrap .u8 a=a%256:=λa=>by
   simp only [IntKind.wrap,IntKind.bits,IntKind.signed,E7f];rfl
  have b0:IntKind.wrap .u8 n=((byI n 0).toNat:Int):=by rw [wm,A0p];simp
  have b1:IntKind.wrap .u8 (n/256)=((byI n 1).toNat:Int):=by rw [wm,A0p];simp
  have ef:E4 [Cell.i .u8 0,.i .u8 0] [(0,1,.c (.i .u8 (byI n 0).toNat)),(1,1,.c (.i .u8 (byI n 1).toNat))]=A4 (B4 (B9 2 n)):=rfl;have ef5:E4 [Cell.i .u8 0,.i .u8 0,.i .u8 0,.i .u8 0,.i .u8 0] [(0,1,.c (.i .u8 0)),(1,1,.c (.i .u8 0)),(2,1,.c (.i .u8 0)),(3,1,.c (.i .u8 0)),(4,1,.c (.i .u8 0))]=A4 (B4 [0,0,0,0,0]):=rfl;have hP:=λh=>D7N hs h
  have hpl:(B4 (W8 s)).length=25:=by rw [A9];exact hJ
  have hz:(B4 (zeros 25)).length=25:=by rw [A9];exact zeros_length
  have hA:=kN (h:=g++[rT [.s s,.i .i64 n],rT [],rT (B4 (B9 2 n)),rT (B4 (W8 s))]) (id:=g.length+2) (jd:=g.length+3) (n:=2) (m:=25) (sz:=1) (cs:=B4 (B9 2 n)) (ys:=B4 (W8 s)) (rw:=A5) (by simp) (by simp [A9]) (by simp) (by rw [hpl]) rfl (by omega) (by omega);simp only [E7a,E7g,E7v,E7t,E7c,E7E,E7m,pA,E7U,E7T,Nat.reduceAdd,<-M6] at hA;have E31:(B4 (B9 2 n++W8 s)).length=27*1:=by rw [A9,E7a,Q5,hJ]
  have hA2:=kN (h:=g++[rT [.s s,.i .i64 n],rT [],A7,rT (B4 (W8 s)),rT (B4 (B9 2 n++W8 s)),rT (B4 [0,0,0,0,0])]) (id:=g.length+4) (jd:=g.length+5) (n:=27) (m:=5) (sz:=1) (cs:=B4 (B9 2 n++W8 s)) (ys:=B4 [0,0,0,0,0]) (rw:=A5) (by simp) E31 (by simp) rfl rfl (by omega) (by omega);simp only [E7a,E7g,E7v,E7t,E7c,E7E,E7m,pA,E7U,E7T,Nat.reduceAdd,<-M6] at hA2;rw [<-E7c (B9 2 n),show B9 2 n++W8 s++[0,0,0,0,0]=Y2 s n from rfl] at hA2;rw [B2L,I7];refine ⟨sV (g.length+6) 0 32 1,g++[rT [.s s,.i .i64 n],rT [],A7,rT (B4 (W8 s)),A7,rT (B4 [0,0,0,0,0]),rT (B4 (Y2 s n))],?_,by rw [A9,Y3],g.length+6,rfl,by omega,?_⟩
  ·generalize Y2 s n=E at *;generalize B9 2 n++W8 s=Q at *;generalize B4 [0,0,0,0,0]=F at *;generalize B4 (W8 s)=P at *;generalize B4 (B9 2 n)=B2 at *;generalize zeros 25=z at *;simp only [esc,esh,Nat.reduceAdd,Nat.reduceMul,Nat.reduceLT,b0,e4,b1,ef,hP,hpl,hz,hA,ef5,hA2]
  ·simp
 obtain ⟨v,g',e,ho⟩:=key (ro h);exact A9N e (by simpa [F7] using ho) (by simp)
def A1U (b:List UInt8) (k:Nat):List UInt8:=(b.drop (K9 k)).take 32
def nameB (b:List UInt8) (k:Nat):List UInt8:=(b.drop (K9 k+2)).take 25
def dD (b:List UInt8) (k:Nat):Int:=fieldN b (K9 k) 2
abbrev Ent:=List UInt8 × Int
def isE (b:List UInt8) (k:Nat) (s:List UInt8):Bool:=A15 s (dD b k)&&decide (Y2 s (dD b k)=A1U b k)
def S3 (b:List UInt8) (k:Nat):Option Ent:=(dM (nameB b k)).bind λs=>if isE b k s=A5 then A4 (s,dD b k) else A7
def W2:Option Ent->List Cell
 | none=>[.s [],o0]
 | some e=>[.s e.1,.i .i64 e.2]
theorem B87 {b:List UInt8} {k:Nat} (hb:b.length=256) (hk:k<7):(A1U b k).length=32:=by simp [A1U,K9,hb];omega
theorem A7J {b:List UInt8} {k:Nat} (hb:b.length=256) (hk:k<7):(nameB b k).length=25:=by simp [nameB,K9,hb];omega
theorem A7V {l s:List UInt8} (h:dM l=A4 s):V4 s=A5:=by
 unfold dM at h;split at h
 ·split at h
  ·rename_i hc;cases h;exact hc.1
  ·cases h
 ·cases h
def cpN (l:List UInt8) (i:Nat):List UInt8:=l.take i++zeros (25-i)
theorem D6j {l:List UInt8} {i:Nat} (hl:l.length=25) (hi:i<=25):(cpN l i).length=25:=by simp [cpN,zeros,hl];omega
theorem E19 {l:List UInt8} {i:Nat} (hl:l.length=25) (hi:i<25):(cpN l i).set i l[i]=cpN l (i+1):=by
 unfold cpN;have hlen:(List.take i l).length=i:=by simp;omega
 rw [E7I _ _ (by omega),hlen,E7R,E7n (by omega),E7c];refine congrArg (List.take i l ++ ·) ?_;have e:25-i=(25-(i+1))+1:=by omega
 rw [e];unfold zeros;rw [E7z,E7T];rfl
theorem E18 {l:List UInt8} (hl:l.length=25):cpN l 25=l:=by simp [cpN,zeros,E7i,hl]
theorem D4M {b:List UInt8} {k:Nat}:cJ b (K9 k:Nat) 32=A1U b k:=by
 unfold cJ A1U;rw [if_pos (by omega)];simp
theorem D7n {b:List UInt8} {k:Nat} (hk:k<7):((atN b (K9 k:Nat) 2:Nat):Int)=dD b k:=by
 unfold atN dD fieldN K9;rw [if_pos ⟨by omega,O0.2 (by omega)⟩];simp only [E7r];rfl
theorem C7a {b:List UInt8} {k q:Nat} {g:B5} (hb:b.length=256) (hk:k<7):∀ e i m:Nat,i+e=25->e<m ->
  ∃ h',B0Y q m (iV (k:Int)) (pV g.length 0) (pV (g.length+1) 0) (pV (g.length+2) 0) (iV (i:Int)) (g++[rT (B4 b),rT [.s [],o0],rT (B4 (cpN (nameB b k) i))]) =
   A4 (.t [.a (W2 (S3 b k)),.c (.b (S3 b k).isSome)],h')
 | e,i,0,_,hm=>by omega
 | 0,i,m+1,hi,hm=>by
  have e0:i=25:=by omega
  subst e0;have hnl:=A7J hb hk;rw [E18 hnl];have c0:¬ ((25:Nat):Int)<25:=by omega
  have hbl:(B4 b).length=256:=by rw [A9,hb]
  have hnc:(B4 (nameB b k)).length=25:=by rw [A9,hnl]
  have hU:=λh=>D9p hnl h
  have hF:=λh=>oO (h:=h) hk
  have hA:=λh=>nG (h:=h) hb (a:=(K9 k:Nat)) (w:=2)
  rw [D7n hk] at hA;have ef:∀ (s:List UInt8) (n:Int),E4 [Cell.s [],o0] [(0,1,.c (.s s)),(1,1,iV n)]=A4 [.s s,.i .i64 n]:=λ_ _=>rfl
  have ef0:E4 [Cell.s [],o0] []=A4 [.s [],o0]:=rfl;rw [A2P];unfold S3;cases hu:dM (nameB b k) with
  | none =>
   rw [hu] at hU;simp only [E7Z,E7x,Bool.false_eq_true,if_false] at hU;generalize dD b k=n at *;generalize B4 (nameB b k)=z at *;generalize B4 b=y at *;exact ⟨_,by simp only [esc,esh,Nat.reduceAdd,Nat.reduceMul,Nat.reduceLT,c0,hbl,hnc,hU,hF,hA,ef,ef0,Int.reduceEq,Option.bind_none,W2]<;>rfl⟩
  | some s =>
   rw [hu] at hU;simp only [E7N,E7o,if_true] at hU;have hfs:=(cX (A7V hu)).2;have hM:=λh=>A4e (s:=s) (n:=dD b k) (h:=h) (by omega)
   rw [E7h];unfold isE;cases hm:A15 s (dD b k) with
   | false =>
    rw [hm] at hM;rw [E7f,if_neg (by simp)];generalize dD b k=n at *;generalize B4 (nameB b k)=z at *;generalize B4 b=y at *;exact ⟨_,by simp only [esc,esh,Nat.reduceAdd,Nat.reduceMul,Nat.reduceLT,c0,hbl,hnc,hU,hF,hA,ef,ef0,hM,Int.reduceEq,W2]<;>rfl⟩
   | true =>
    rw [hm] at hM;rw [E7j];have hW:=λh=>rX (s:=s) (n:=dD b k) (h:=h) (by omega)
    have nC:=B87 hb hk;have hC:=λh=>B57 (h:=h) hb (a:=(K9 k:Nat)) (n:=32)
    rw [D4M,nC] at hC;have s1:=λ(c0 c1 c2 c3:Option Row)=>Has.str (l:=Y2 s (dD b k)) (Has.row (h:=g++[c0,c1,c2,c3,rT (B4 (Y2 s (dD b k)))]) (id:=g.length+4) (sz:=1) (n:=32) (rw:=A5) (by simp) (by rw [A9,Y3]) (F9 _))
    have s2:=λ(c0 c1 c2 c3 c4:Option Row)=>Has.str (l:=A1U b k) (Has.row (h:=g++[c0,c1,c2,c3,c4,rT (B4 (A1U b k))]) (id:=g.length+5) (sz:=1) (n:=32) (rw:=A5) (by simp) (by rw [A9,nC]) (F9 _))
    by_cases ce:Y2 s (dD b k)=A1U b k
    ·rw [if_pos (decide_eq_true ce)];generalize Y2 s (dD b k)=E at *;generalize A1U b k=L at *;generalize dD b k=n at *;subst ce;generalize B4 (nameB b k)=z at *;generalize B4 b=y at *;exact ⟨_,by simp only [esc,esh,Nat.reduceAdd,Nat.reduceMul,Nat.reduceLT,c0,hbl,hnc,hU,hF,hA,ef,ef0,hM,hW,E08,s1,hC,E09,s2,eq_self,decide_true,Int.reduceEq,W2,E7o]<;>rfl⟩
    ·rw [if_neg (by rw [decide_eq_true_eq];exact ce)];generalize Y2 s (dD b k)=E at *;generalize A1U b k=L at *;generalize dD b k=n at *;generalize B4 (nameB b k)=z at *;generalize B4 b=y at *;exact ⟨_,by simp only [esc,esh,Nat.reduceAdd,Nat.reduceMul,Nat.reduceLT,c0,hbl,hnc,hU,hF,hA,ef,ef0,hM,hW,E08,s1,hC,E09,s2,ce,Int.reduceEq,W2,E7x]<;>rfl⟩
 | e+1,i,m+1,hi,hm=>by
  obtain ⟨h',ih⟩:=C7a (q:=q) (g:=g) hb hk e (i+1) m (by omega) (by omega);have hnl:=A7J hb hk;have c0:(i:Int)<25:=by omega
  have hF:=λh=>oO (h:=h) hk
  have hbl:(B4 b).length=256:=by rw [A9,hb]
  have xY:(B4 (cpN (nameB b k) i)).length=25:=by rw [A9];exact D6j hnl (by omega)
  have V5:i<(B4 (cpN (nameB b k) i)).length:=by omega
  have w1:IntKind.wrap .i64 (((K9 k:Nat):Int)+2)=((K9 k+2:Nat):Int):=by unfold K9;rw [wrap_i64 (by omega) (by omega)];omega
  have w2:IntKind.wrap .i64 (((K9 k+2:Nat):Int)+(i:Int))=((K9 k+2+i:Nat):Int):=by unfold K9;rw [wrap_i64 (by omega) (by omega)];omega
  have hj:K9 k+2+i<256:=by unfold K9;omega
  have a1:J8 256 1 (pV g.length 0) (iV ((K9 k+2+i:Nat):Int))=A4 (pV g.length (K9 k+2+i)):=by rw [J4 hj];simp
  have a2:J8 25 1 (pV (g.length+2) 0) (iV (i:Int))=A4 (pV (g.length+2) i):=by rw [J4 (by omega)];simp
  have ei:(nameB b k)[i]'(by omega)=b[K9 k+2+i]'(by omega):=by simp [nameB]
  have l1:(B4 b)[K9 k+2+i]?=A4 (.i .u8 ((nameB b k)[i]'(by omega)).toNat):=by
   rw [ei];simp [B4,hb,hj]
  have hs:(B4 (cpN (nameB b k) i)).set i (.i .u8 ((nameB b k)[i]'(by omega)).toNat)=B4 (cpN (nameB b k) (i+1)):=by rw [iI,E19 hnl (by omega)]
  rw [A2P];refine ⟨h',?_⟩;generalize B4 (cpN (nameB b k) (i+1))=z1 at *;generalize B4 (cpN (nameB b k) i)=z at *;generalize B4 b=y at *;simp only [esc,esh,Nat.reduceAdd,Nat.reduceMul,Nat.reduceLT,c0,hF,w1,w2,a1,l1,a2,V5,hs,D3 (show i+1<9223372036854775808 by omega)];exact ih
theorem D1y {o:Option Ent}:N8 (W2 o)=A5:=by cases o<;>rfl
theorem B0X {b:List UInt8} {k:Nat} {h:B5} (hb:b.length=256) (hk:k<7):A3P [.a (B4 b),iV (k:Int)] h=A4 (.t [.a (W2 (S3 b k)),.c (.b (S3 b k).isSome)],h):=by
 have key:∀ N,25<N->∀ g,∃ g',A3q N [.a (B4 b),iV (k:Int)] g=A4 (.t [.a (W2 (S3 b k)),.c (.b (S3 b k).isSome)],g'):=by
  intro N hN g;obtain ⟨h',e⟩:=C7a (g:=g) (q:=N) hb hk 25 0 N (by omega) hN;have e0:cpN (nameB b k) 0=zeros 25:=by simp [cpN]
  rw [e0] at e;rw [B9j,I7];generalize zeros 25=z at *;generalize B4 b=y at *;exact ⟨h',by simp only [esc,esh,Nat.reduceAdd,Nat.reduceMul,Nat.reduceLT];exact e⟩
 obtain ⟨g',e⟩:=key (h.length+26) (by omega) (ro h);exact B4R e (by simp [Val.flat,D1y,Cell.flat])
abbrev Slt:=Nat × Ent
def slC:Option Slt->List Cell
 | none=>[o0,.s [],o0]
 | some x=>[.i .i64 (x.1:Int),.s x.2.1,.i .i64 x.2.2]
theorem mB {o:Option Slt}:(slC o).length=3:=by cases o<;>rfl
theorem D5Q {o:Option Slt}:N8 (slC o)=A5:=by cases o<;>rfl
def aP (b nm:List UInt8):Nat->Nat->Option Slt
 | 0,_=>A7
 | e+1,k=>match S3 b k with
  | some x=>if x.1=nm then A4 (k,x) else aP b nm e (k+1)
  | none=>aP b nm e (k+1)
theorem A4r {b nm:List UInt8} {e k:Nat} (hx:S3 b k=A7):aP b nm (e+1) k=aP b nm e (k+1):=by rw [aP,hx]
theorem A7w {b nm:List UInt8} {e k:Nat} {n:Int} (hx:S3 b k=A4 (nm,n)):aP b nm (e+1) k=A4 (k,(nm,n)):=by rw [aP,hx];simp
theorem A4q {b nm s:List UInt8} {e k:Nat} {n:Int} (hx:S3 b k=A4 (s,n)) (T8:s≠nm):aP b nm (e+1) k=aP b nm e (k+1):=by rw [aP,hx];simp [T8]
def W7 (b nm:List UInt8):Option Slt:=aP b nm 7 0
theorem E0j {k n:Int} {s nm:List UInt8} {r1 r2 r3:Nat} {h:B5} (h1:rd h r1=rT [.s nm]) (h3:rd h r3=rT [.b A6]) (T8:s≠nm) :
  iG [.a [.i .i64 k,.s s,.i .i64 n],pV r1 0,pV r2 0,pV r3 0] h=A4 (bV A5,h++[rT [.i .i64 k,.s s,.i .i64 n]]):=by
 refine A1a (n:=0) ?_;have l1:B8 (h++[rT [.i .i64 k,.s s,.i .i64 n]]) (pV r1 0)=A4 (.c (.s nm)):=C4 (cs:=[.s nm]) (C5 h1) rfl rfl;have l3:B8 (h++[rT [.i .i64 k,.s s,.i .i64 n]]) (pV r3 0)=A4 (bV A6):=C4 (cs:=[.b A6]) (C5 h3) rfl rfl;rw [A0Z];simp only [esc,esh,Nat.reduceAdd,Nat.reduceMul,Nat.reduceLT,l1,T8,zO,l3]<;>rfl
theorem D8v {k n:Int} {nm:List UInt8} {c2:List Cell} {r1 r2 r3:Nat} {h:B5} (h1:rd h r1=rT [.s nm]) (h2:rd h r2=rT c2) (hl:c2.length=3) (h3:rd h r3=rT [.b A6]) (h23:r2≠r3) :
  iG [.a [.i .i64 k,.s nm,.i .i64 n],pV r1 0,pV r2 0,pV r3 0] h=A4 (bV A6,((h++[rT [.i .i64 k,.s nm,.i .i64 n]]).set r2 (rT [.i .i64 k,.s nm,.i .i64 n])).set r3 (rT [.b A5])):=by
 refine A1a (n:=0) ?_;have l1:B8 (h++[rT [.i .i64 k,.s nm,.i .i64 n]]) (pV r1 0)=A4 (.c (.s nm)):=C4 (cs:=[.s nm]) (C5 h1) rfl rfl;have s2:=storeAll (h:=h++[rT [.i .i64 k,.s nm,.i .i64 n]]) (id:=r2) (n:=3) (xs:=[.i .i64 k,.s nm,.i .i64 n]) (C5 h2) hl rfl;have h3':rd ((h++[rT [.i .i64 k,.s nm,.i .i64 n]]).set r2 (rT [.i .i64 k,.s nm,.i .i64 n])) r3=rT [.b A6]:=by rw [B6 h23];exact C5 h3
 have s3:=G9 (x:=.b A5) (off:=0) h3' (by simp);have l4:B8 (((h++[rT [.i .i64 k,.s nm,.i .i64 n]]).set r2 (rT [.i .i64 k,.s nm,.i .i64 n])).set r3 (rT [.b A5])) (pV r3 0)=A4 (bV A5):=C4 (cs:=[.b A5]) (C6 (by simpa using C8 h3')) rfl rfl;rw [A0Z];have s3:I3 ((h++[rT [.i .i64 k,.s nm,.i .i64 n]]).set r2 (rT [.i .i64 k,.s nm,.i .i64 n])) (pV r3 0) (bV A5)=A4 (((h++[rT [.i .i64 k,.s nm,.i .i64 n]]).set r2 (rT [.i .i64 k,.s nm,.i .i64 n])).set r3 (rT [.b A5])):=s3;simp only [esc,esh,Nat.reduceAdd,Nat.reduceMul,Nat.reduceLT,l1,s2,s3,zO,l4]<;>rfl
theorem C00 {b nm:List UInt8} {r0 r1 r2 r3 q:Nat} {B:B5} (hb:b.length=256) (hB1:rd B r1=rT [.s nm]) (hr2:B.length<=r2) (hr3:B.length<=r3) (h23:r2≠r3) (h02:r0≠r2) (h03:r0≠r3):∀ (e k m:Nat) (h:B5),k+e=7->e<m->Low B.length B h ->
  rd h r2=rT (slC A7)->rd h r3=rT [.b A6]->rd h r0=rT (B4 b) ->
  ∃ h',rV q m (.c (.f 151 [(r1,0),(r2,0),(r3,0)])) (pV r0 0) (iV (k:Int)) h=A4 (.t [],h')/\Low B.length B h'/\rd h' r2=rT (slC (aP b nm e k))/\rd h' r3=rT [.b (aP b nm e k).isSome]
 | e,k,0,h,_,hm,_,_,_,_=>by omega
 | 0,k,m+1,h,hk,hm,hlow,h2,h3,h0=>by
  have e0:k=7:=by omega
  subst e0;have c0:¬ ((7:Nat):Int)<7:=by omega
  refine ⟨h,?_,hlow,h2,h3⟩;rw [nN];simp only [esc,c0]<;>rfl
 | e+1,k,m+1,h,hk,hm,hlow,h2,h3,h0=>by
  have c0:(k:Int)<7:=by omega
  have hbl:(B4 b).length=256:=by rw [A9,hb]
  have s1:=C7 (h:=h) (id:=r0) h0 hbl;have hR:=B0X (h:=h) (k:=k) hb (by omega);have w1:=D3 (show k+1<9223372036854775808 by omega);have hcv:∀ (x:Val) (h:B5),A2R sX (.c (.f 151 [(r1,0),(r2,0),(r3,0)])) [x] h=iG [x,pV r1 0,pV r2 0,pV r3 0] h:=λ_ _=>Eq.trans rfl rfl
  rw [nN];cases hx:S3 b k with
  | none =>
   rw [hx] at hR;rw [A4r hx];obtain ⟨h',f1,f2⟩:=C00 (q:=q) hb hB1 hr2 hr3 h23 h02 h03 e (k+1) m (h++[rT ([.s [],o0])]) (by omega) (by omega) (hlow.new _) (C5 h2) (C5 h3) (C5 h0);refine ⟨h',?_,f2⟩;generalize B4 b=y at *;simp only [esc,esh,Nat.reduceAdd,Nat.reduceMul,Nat.reduceLT,c0,s1,hR,W2,E7x,w1];exact f1
  | some x =>
   obtain ⟨s,n⟩:=x;rw [hx] at hR;have ef:E4 [o0,.s [],o0] [(0,1,iV (k:Int)),(1,2,.a [.s s,.i .i64 n])]=A4 [.i .i64 (k:Int),.s s,.i .i64 n]:=rfl;have h1':rd (h++[rT [.s s,.i .i64 n]]) r1=rT [.s nm]:=C5 (hlow.rd hB1);by_cases ce:s=nm
   ·subst ce;have hF:=D8v (k:=(k:Int)) (n:=n) h1' (C5 h2) mB (C5 h3) h23;simp only [E7c,E7E,E7m] at hF;rw [A7w hx];refine ⟨((h++[rT [.s s,.i .i64 n],rT [.i .i64 (k:Int),.s s,.i .i64 n]]).set r2 (rT [.i .i64 (k:Int),.s s,.i .i64 n])).set r3 (rT [.b A5]),?_,((hlow.new [rT [.s s,.i .i64 n],rT [.i .i64 (k:Int),.s s,.i .i64 n]]).set hr2 _).set hr3 _,?_,?_⟩
    ·generalize B4 b=y at *;simp only [esc,esh,Nat.reduceAdd,Nat.reduceMul,Nat.reduceLT,c0,s1,hR,W2,E7o,ef,hcv,hF]<;>rfl
    ·rw [B6 (Ne.symm h23)];exact C6 (C8 (C5 h2))
    ·exact C6 (by rw [E7D];exact C8 (C5 h3))
   ·have hF:=E0j (k:=(k:Int)) (n:=n) (r2:=r2) h1' (C5 h3) ce;simp only [E7c,E7E,E7m] at hF;rw [A4q hx ce];obtain ⟨h',f1,f2⟩:=C00 (q:=q) hb hB1 hr2 hr3 h23 h02 h03 e (k+1) m (h++[rT [.s s,.i .i64 n],rT [.i .i64 (k:Int),.s s,.i .i64 n]]) (by omega) (by omega) (hlow.new _) (C5 h2) (C5 h3) (C5 h0);refine ⟨h',?_,f2⟩;generalize B4 b=y at *;simp only [esc,esh,Nat.reduceAdd,Nat.reduceMul,Nat.reduceLT,c0,s1,hR,W2,E7o,ef,hcv,hF,w1];exact f1
theorem B0W {b nm:List UInt8} {h:B5} (hb:b.length=256):A3I [.a (B4 b),.c (.s nm)] h=A4 (.t [.a (slC (W7 b nm)),.c (.b (W7 b nm).isSome)],h):=by
 have key:∀ g,∃ g',A3l 0 [.a (B4 b),.c (.s nm)] g=A4 (.t [.a (slC (W7 b nm)),.c (.b (W7 b nm).isSome)],g'):=by
  intro g;have hbl:(B4 b).length=256:=by rw [A9,hb]
  have emk:B5H 151 [pV (g.length+1) 0,pV (g.length+3) 0,pV (g.length+4) 0]=A4 (.c (.f 151 [(g.length+1,0),(g.length+3,0),(g.length+4,0)])):=rfl;obtain ⟨h',f1,f2,f3,f4⟩:=C00 (b:=b) (nm:=nm) (r0:=g.length+5) (r1:=g.length+1) (r2:=g.length+3) (r3:=g.length+4) (q:=8) (B:=g++[rT (B4 b),rT [.s nm],rT (slC A7)]) hb (by simp) (by simp) (by simp) (by omega) (by omega) (by omega) 7 0 8 (g++[rT (B4 b),rT [.s nm],rT (slC A7),rT (slC A7),rT [.b A6],rT (B4 b)]) (by omega) (by omega)
   (by have:=(Low.refl (h:=g++[rT (B4 b),rT [.s nm],rT (slC A7)]) (E7b _)).new [rT (slC A7),rT [.b A6],rT (B4 b)];simpa using this) (by simp) (by simp) (by simp)
  have hS:iZ [.a (B4 b),.c (.f 151 [(g.length+1,0),(g.length+3,0),(g.length+4,0)])] (g++[rT (B4 b),rT [.s nm],rT (slC A7),rT (slC A7),rT [.b A6]])=A4 (.t [],h'):=by
   refine A3J (n:=8) ?_;rw [A3m];simp only [esc,esh,Nat.reduceAdd,Nat.reduceMul,Nat.reduceLT];exact f1
  have hr:rd h' (g.length+2)=rT (slC A7):=by rw [f2.2.2 _ (by simp)];simp
  change rd h' (g.length+3)=rT (slC (W7 b nm)) at f3;change rd h' (g.length+4)=rT [.b (W7 b nm).isSome] at f4;have t1:=C7 (n:=3) f3 mB;have t2:B8 h' (pV (g.length+4) 0)=A4 (bV (W7 b nm).isSome):=C4 (cs:=[.b (W7 b nm).isSome]) f4 rfl rfl;have t3:=storeAll (n:=3) (xs:=slC (W7 b nm)) hr mB mB;have f4':rd (h'.set (g.length+2) (rT (slC (W7 b nm)))) (g.length+4)=rT [.b (W7 b nm).isSome]:=by rw [B6 (by omega)];exact f4
  have t4:B8 (h'.set (g.length+2) (rT (slC (W7 b nm)))) (pV (g.length+4) 0)=A4 (bV (W7 b nm).isSome):=C4 (cs:=[.b (W7 b nm).isSome]) f4' rfl rfl;have t5:=C7 (n:=3) (C6 (x:=rT (slC (W7 b nm))) (C8 hr)) mB;have z0:[o0,.s [],o0]=slC A7:=rfl;rw [B9f,z0];generalize slC (W7 b nm)=Y at *;generalize slC A7=Z at *;generalize (W7 b nm).isSome=S at *;generalize B4 b=y at *;exact ⟨_,by simp only [esc,esh,Nat.reduceAdd,Nat.reduceMul,Nat.reduceLT,hbl,emk,hS,t1,t2,t3,t4,t5]<;>rfl⟩
 obtain ⟨g',e⟩:=key (ro h);exact B4O e (by simp [Val.flat,D5Q,Cell.flat])
def A1L (X:List Int) (nm:List UInt8):Nat:=zF nm%D1 (X.headD 0)
def R3 (X:List Int) (nm:List UInt8):Int:=X.tail.getD (A1L X nm) 0
theorem D46 (X:List Int) (nm:List UInt8):A1L X nm<32:=by
 have h1:=O6 (X.headD 0);have h2:0<D1 (X.headD 0):=by unfold D1;exact Nat.two_pow_pos _
 have:=Nat.mod_lt (zF nm) h2;unfold A1L;omega
abbrev Plc:=Int × Nat × Int
def sP (l:List Slt):List Cell:=(l.map λx=>slC (A4 x)).flatten
theorem yJ {l:List Slt}:(sP l).length=l.length*3:=by
 induction l with
 | nil=>rfl
 | cons x l ih=>simp only [sP,E79,List.flatten_cons,E7a,mB,E7g] at ih ⊢;omega
theorem D9g {l:List Slt} {x:Slt}:sP (l++[x])=sP l++slC (A4 x):=by simp [sP]
theorem D9f {l:List Slt}:N8 (sP l)=A5:=by
 induction l with
 | nil=>rfl
 | cons x l ih =>
  have:sP (x::l)=slC (A4 x)++sP l:=rfl;rw [this,sF,D5Q,ih];rfl
theorem E0V {l:List Slt}:noX (sP l)=A5:=by
 induction l with
 | nil=>rfl
 | cons x l ih =>
  have:sP (x::l)=[.i .i64 (x.1:Int),.s x.2.1,.i .i64 x.2.2]++sP l:=rfl;rw [this];simp [noX,Cell.isX] at ih ⊢;exact ih
def N4 (b:List UInt8):Nat->Nat->List Slt
 | 0,_=>[]
 | e+1,k=>match S3 b k with
  | some x=>(k,x)::N4 b e (k+1)
  | none=>N4 b e (k+1)
def N9 (b:List UInt8):List Slt:=N4 b 7 0
theorem wU {b:List UInt8} {e k:Nat} (hx:S3 b k=A7):N4 b (e+1) k=N4 b e (k+1):=by rw [N4,hx]
theorem wV {b:List UInt8} {e k:Nat} {x:Ent} (hx:S3 b k=A4 x):N4 b (e+1) k=(k,x)::N4 b e (k+1):=by rw [N4,hx]
theorem E3E {h:B5} {jd m sz:Nat} {ys:List Cell} (hy:rd h jd=rT ys) (hyl:ys.length=m*sz) (hsz:0<sz) (hn:m<=1073741824) :
  jZ h sz (.c .ns) (sV jd 0 m sz)=A4 (sV h.length 0 m sz,h++[rT ys]):=by
 have h2:P8 h sz (sV jd 0 m sz)=A4 ys:=by
  simp only [P8,if_true,iE,hy,E7h,E7p,E7t];rw [<-hyl,List.take_length,if_pos ⟨E7b _,rfl⟩]
 have e1:ys.length/sz=m:=by rw [hyl];exact Nat.mul_div_cancel _ hsz
 simp only [jZ,h2,E7h];rw [e1,if_pos hn]
def Held (h:B5) (x:Cell) (l:List Slt) (b r0 r:Nat):Prop:=(l=[]/\x=.ns)\/∃ id,x=.sl id 0 l.length 3/\rd h id=rT (sP l)/\b<=id/\id≠r0/\id≠r
theorem Held.more {h:B5} {x:Cell} {l:List Slt} {b r0 r:Nat} (hd:Held h x l b r0 r) (t:B5):Held (h++t) x l b r0 r:=by
 rcases hd with hd | ⟨id,h1,h2,h3⟩
 ·exact .inl hd
 ·exact .inr ⟨id,h1,C5 h2,h3⟩
theorem E0K {k:Nat} {n:Int} {s:List UInt8} {x:Cell} {l:List Slt} {r0 r:Nat} {B h:B5} {c0:List Cell} (hlow:Low B.length B h) (hr:rd h r=rT [x]) (h0:rd h r0=rT c0) (h0r:r0≠r) (hBr:B.length<=r) (hB0:B.length<=r0) (hd:Held h x l B.length r0 r) (hl:l.length<=7) :
  ∃ x' h',oJ [.a [.i .i64 (k:Int),.s s,.i .i64 n],pV r 0] h=A4 (bV A5,h')/\Low B.length B h'/\rd h' r=rT [x']/\rd h' r0=rT c0/\Held h' x' (l++[(k,(s,n))]) B.length r0 r:=by
 have V5:=C8 hr;have E63:=C8 h0;have l1:B8 (h++[rT [.i .i64 (k:Int),.s s,.i .i64 n]]) (pV r 0)=A4 (.c x):=C4 (cs:=[x]) (C5 hr) rfl (by simp);have ef:E4 [o0,.s [],o0] [(0,3,.a [.i .i64 (k:Int),.s s,.i .i64 n])]=A4 [.i .i64 (k:Int),.s s,.i .i64 n]:=rfl;have hBh:=hlow.2.1;rcases hd with ⟨rfl,rfl⟩ | ⟨id,rfl,hi,hbi,hi0,hir⟩
 ·have hA:=E3E (h:=h++[rT [.i .i64 (k:Int),.s s,.i .i64 n],rT [.i .i64 (k:Int),.s s,.i .i64 n]]) (jd:=h.length+1) (m:=1) (sz:=3) (ys:=[.i .i64 (k:Int),.s s,.i .i64 n]) (by simp) rfl (by omega) (by omega);simp only [E7a,E7g,E7v,E7t,E7c,E7E,E7m,Nat.reduceAdd] at hA;have hr2:rd (h++[rT [.i .i64 (k:Int),.s s,.i .i64 n],rT [.i .i64 (k:Int),.s s,.i .i64 n],rT [.i .i64 (k:Int),.s s,.i .i64 n]]) r=rT [.ns]:=C5 hr;have t1:=G9 (x:=.sl (h.length+2) 0 1 3) (off:=0) hr2 (by simp);refine ⟨.sl (h.length+2) 0 1 3,_,A1b (n:=0) (by rw [A00];simp only [esc,esh,Nat.reduceAdd,Nat.reduceMul,Nat.reduceLT,l1,ef,hA,t1]<;>rfl),(hlow.new _).set hBr _,?_,?_,.inr ⟨h.length+2,rfl,?_,by omega,by omega,by omega⟩⟩
  ·exact C6 (C8 hr2)
  ·rw [B6 (Ne.symm h0r)];exact C5 h0
  ·rw [B6 (by omega)];simp [sP,slC]
 ·have hA:=kN (h:=h++[rT [.i .i64 (k:Int),.s s,.i .i64 n],rT [.i .i64 (k:Int),.s s,.i .i64 n]]) (id:=id) (jd:=h.length+1) (n:=l.length) (m:=1) (sz:=3) (cs:=sP l) (ys:=[.i .i64 (k:Int),.s s,.i .i64 n]) (rw:=A5) (C5 hi) yJ (by simp) rfl rfl (by omega) (by omega);have hli:=C8 hi;have es:(h++[rT [.i .i64 (k:Int),.s s,.i .i64 n],rT [.i .i64 (k:Int),.s s,.i .i64 n]]).length=h.length+2:=by simp
  rw [es] at hA;have hr2:rd ((h++[rT [.i .i64 (k:Int),.s s,.i .i64 n],rT [.i .i64 (k:Int),.s s,.i .i64 n]]).set id A7++[rT (sP l++[.i .i64 (k:Int),.s s,.i .i64 n])]) r=rT [.sl id 0 l.length 3]:=by
   refine C5 ?_;rw [B6 hir];exact C5 hr
  have t1:=G9 (x:=.sl (h.length+2) 0 (l.length+1) 3) (off:=0) hr2 (by simp);refine ⟨.sl (h.length+2) 0 (l.length+1) 3,_,A1b (n:=0) (by rw [A00];simp only [esc,esh,Nat.reduceAdd,Nat.reduceMul,Nat.reduceLT,l1,ef,hA,t1]<;>rfl),(((hlow.new _).set hbi _).new _).set hBr _,?_,?_,.inr ⟨h.length+2,by simp,?_,by omega,by omega,by omega⟩⟩
  ·exact C6 (C8 hr2)
  ·rw [B6 (Ne.symm h0r)];refine C5 ?_;rw [B6 hi0];exact C5 h0
  ·rw [B6 (by omega),D9g];have:((h++[rT [.i .i64 (k:Int),.s s,.i .i64 n],rT [.i .i64 (k:Int),.s s,.i .i64 n]]).set id A7).length=h.length+2:=by simp
   rw [<-this];exact T9
theorem C01 {b:List UInt8} {r0 r q:Nat} {B:B5} (hb:b.length=256) (h0r:r0≠r) (hBr:B.length<=r) (hB0:B.length<=r0):∀ (e k m:Nat) (h:B5) (x:Cell) (l:List Slt),k+e=7->e<m->l.length<=k->Low B.length B h ->
  rd h r=rT [x]->rd h r0=rT (B4 b)->Held h x l B.length r0 r ->
  ∃ x' h',rW q m (.c (.f 212 [(r,0)])) (pV r0 0) (iV (k:Int)) h=A4 (.t [],h')/\Low B.length B h'/\rd h' r=rT [x']/\Held h' x' (l++N4 b e k) B.length r0 r
 | e,k,0,h,x,l,_,hm,_,_,_,_,_=>by omega
 | 0,k,m+1,h,x,l,hk,hm,hl,hlow,hr,h0,hd=>by
  have e0:k=7:=by omega
  subst e0;have c0:¬ ((7:Nat):Int)<7:=by omega
  refine ⟨x,h,?_,hlow,hr,by rw [N4,E7w];exact hd⟩;rw [nO];simp only [esc,c0]<;>rfl
 | e+1,k,m+1,h,x,l,hk,hm,hl,hlow,hr,h0,hd=>by
  have c0:(k:Int)<7:=by omega
  have hbl:(B4 b).length=256:=by rw [A9,hb]
  have s1:=C7 (h:=h) (id:=r0) h0 hbl;have hR:=B0X (h:=h) (k:=k) hb (by omega);have w1:=D3 (show k+1<9223372036854775808 by omega);have hcv:∀ (x:Val) (h:B5),A2R sZ (.c (.f 212 [(r,0)])) [x] h=oJ [x,pV r 0] h:=λ_ _=>Eq.trans rfl rfl
  rw [nO];cases hx:S3 b k with
  | none =>
   rw [hx] at hR;rw [wU hx];obtain ⟨x',h',f1,f2⟩:=C01 (q:=q) hb h0r hBr hB0 e (k+1) m (h++[rT ([.s [],o0])]) x l (by omega) (by omega) (by omega) (hlow.new _) (C5 hr) (C5 h0) (hd.more _);refine ⟨x',h',?_,f2⟩;generalize B4 b=y at *;simp only [esc,esh,Nat.reduceAdd,Nat.reduceMul,Nat.reduceLT,c0,s1,hR,W2,E7x,w1];exact f1
  | some en =>
   obtain ⟨s,n⟩:=en;rw [hx] at hR;rw [wV hx];have ef:E4 [o0,.s [],o0] [(0,1,iV (k:Int)),(1,2,.a [.s s,.i .i64 n])]=A4 [.i .i64 (k:Int),.s s,.i .i64 n]:=rfl;obtain ⟨x1,h1,g1,g2,g3,g4,g5⟩:=E0K (k:=k) (n:=n) (s:=s) (hlow.new [rT [.s s,.i .i64 n]]) (C5 hr) (C5 h0) h0r hBr hB0 (hd.more _) (by omega);obtain ⟨x',h',f1,f2,f3,f4⟩:=C01 (q:=q) hb h0r hBr hB0 e (k+1) m h1 x1 (l++[(k,(s,n))]) (by omega) (by omega) (by simp;omega) g2 g3 g4 g5;rw [E7c,List.singleton_append] at f4;refine ⟨x',h',?_,f2,f3,f4⟩;generalize B4 b=y at *;simp only [esc,esh,Nat.reduceAdd,Nat.reduceMul,Nat.reduceLT,c0,s1,hR,W2,E7o,ef,hcv,g1,w1];exact f1
theorem A8l {b:List UInt8} {h:B5} (hb:b.length=256):∃ v t,wH [.a (B4 b)] h=A4 (v,h++t)/\Has (h++t) v 3 (N9 b).length (sP (N9 b))/\(t=[]/\v=.c .ns/\N9 b=[]\/t=[rT (sP (N9 b))]/\v=sV h.length 0 (N9 b).length 3):=by
 have key:∀ g,∃ x g',wG 8 [.a (B4 b)] g=A4 (.c x,g')/\Held g' x (N9 b) g.length (g.length+3) (g.length+2):=by
  intro g;have hbl:(B4 b).length=256:=by rw [A9,hb]
  have emk:B5H 212 [pV (g.length+2) 0]=A4 (.c (.f 212 [(g.length+2,0)])):=rfl;obtain ⟨x,h',f1,f2,f3,f4⟩:=C01 (b:=b) (r0:=g.length+3) (r:=g.length+2) (q:=8) (B:=g) hb (by omega) (by omega) (by omega) 7 0 8 (g++[rT (B4 b),rT [],rT [.ns],rT (B4 b)]) .ns [] (by omega) (by omega) (by simp)
   ((Low.refl (E7b _)).new _) (by simp) (by simp) (.inl ⟨rfl,rfl⟩)
  have hS:jA [.a (B4 b),.c (.f 212 [(g.length+2,0)])] (g++[rT (B4 b),rT [],rT [.ns]])=A4 (.t [],h'):=by
   refine A3L (n:=8) ?_;rw [A3n];simp only [esc,esh,Nat.reduceAdd,Nat.reduceMul,Nat.reduceLT];exact f1
  have t1:B8 h' (pV (g.length+2) 0)=A4 (.c x):=C4 (cs:=[x]) f3 rfl (by simp);rw [B9g];generalize B4 b=y at *;exact ⟨x,h',by simp only [esc,esh,Nat.reduceAdd,Nat.reduceMul,Nat.reduceLT,hbl,emk,hS,t1],f4⟩
 obtain ⟨x,g',e,hd⟩:=key (ro h);rcases hd with ⟨hl,rfl⟩ | ⟨id,rfl,hr,hbi,_⟩
 ·refine ⟨.c .ns,[],?_,?_,.inl ⟨rfl,rfl,hl⟩⟩
  ·rw [E7w];exact B67 e (by simp [Val.low,Cell.low,Cell.flat])
  ·rw [hl];exact .inl ⟨rfl,rfl,rfl⟩
 ·rw [F7] at hbi;refine ⟨sV h.length 0 (N9 b).length 3,[rT (sP (N9 b))],B68 e ⟨yJ,id,rfl,hbi,hr⟩ D9f,Has.row (rw:=A5) (by simp) yJ E0V,.inr ⟨rfl,rfl⟩⟩
abbrev Tld:=Plc × List UInt8
theorem D73 {l:List Slt}:∀ {i:Nat} {x:Slt},l[i]?=A4 x->((sP l).drop (i*3)).take 3=slC (A4 x):=by
 induction l with
 | nil=>intro i x h;simp at h
 | cons y l ih =>
  intro i x h;have e:sP (y::l)=slC (A4 y)++sP l:=rfl;cases i with
  | zero=>simp at h;subst h;rw [e];rfl
  | succ i =>
   simp at h;rw [e,show (i+1)*3=3+i*3 by omega,<-E7X,List.drop_left' (by rw [mB])];exact ih h
theorem dW (b:List UInt8):(N9 b).length<=7:=by
 have:∀ e k,(N4 b e k).length<=e:=by
  intro e
  induction e with
  | zero=>intro k;simp [N4]
  | succ e ih =>
   intro k;have:=ih (k+1);rw [N4];split<;>simp<;>omega
 exact this 7 0
noncomputable section
variable (n m m2:Nat) (a0 a1 x0 x1 x3 x4 x5 x6:Val) (h:B5)
def mP:FD A8:=⟨px 0X172112121cc315607c1c38131801321121224672e2a82f627c7f17c68b1c7c307c3602b627c06881c003a11a4b30321530230702461e17c6388001c2c142f30323023302060510130220301321121224671e2a81f62487f048360671e2a81b62387f038360672a2a81c9651e7f61e38b01e3605617c6388041282b0220133211012,[.c (.b A6),.c (.b A5),.c (.s [46]),.c (.s [46,46]),.c (.i .u8 0),.c (.i .u8 47)],[.idxS (.t 26) (.t 27),.idxS (.t 31) (.t 32)],[.tmp 2],[]⟩
def B6T:=mP.R
def B3P:AtH:=mP.lj 0 n [m] [x0,x3]
def B7L:=tT [⟨2,2,B3P⟩]
def C3q:=mR B6T mP B7L n [a0] h
def A5o:=mL mP B7L 0 n [m] [x0,x3] h
def B6w:=mP.K Tryz.func246
def A6N:=mP.S
theorem A8a:SOk A8 246 A6N:=B6w.sok
theorem B7i:F6 B6T A6N:=B6w.flat
def fV:FD A8:=⟨px 0X11d8211c3a1221268415607c3e1b13181cc3161a13cc31017113fc1c2f14181b83162e13cc61017113fc06887e0007a07182461e17c6388004e1d14284304215430311a070241c9617c2e19121a43042430334303060510143032313483161017113fc64f8638805153022123b91012,[.c (.i .u8 0)],[.idxS (.t 18) (.t 19)],[.tmp 2],[]⟩
def C15:=fV.R
def B8a:AtH:=fV.lj 0 n [m] [x0,x3,x4]
def B79:AtH:=fV.lj 1 n [m] [x0,x3,x4]
def B0H:=tT [⟨2,3,B8a⟩,⟨2,3,B79⟩]
def C5v:=mR C15 fV B0H n [a0] h
def A8p:=mL fV B0H 0 n [m] [x0,x3,x4] h
def C4v:=mJ fV B0H 1 n [m] [x0,x3,x4] h
def C1v:=fV.K Tryz.func229
def A93:=fV.S
theorem A94:SOk A8 229 A93:=C1v.sok
theorem C3U:oP C15 A93:=C1v.out
def vU:FD A8:=⟨px 0X11f02882128481332220170321232222461f3a2a866a2bf61a226a1af06a36116a1af286a36062bc6101ac282e11a3f4224131ac41168806886507c64dc61c1611980001e11940220170321232222461f2e2a81b65287f6281f1612819b0283601cd637c61c8051191d022013703212012,[.c (.s []),.c (.b A6),.c (.i .u8 24),.c (.b A5)],[.slL 1 (.t 14) (A4 (.v (.c (.i .i64 1)))) (A4 (.t 19)),.b2s (.t 20)],[.tmp 2,.tmp 3],[cal A8a,cal A94,cal bO]⟩
def A3r:=vU.R
def B9m:=mR A3r vU (tT []) n [a0] h
def B3b:=vU.K Tryz.func223
def A3Q:=vU.S
theorem B9U:SOk A8 223 A3Q:=B3b.sok
theorem B40:F6 A3r A3Q:=B3b.flat
def pE:FD A8:=⟨px 0X12a84161e17c63884063880481641218c515607c5e281318011fc4162a17c236882c04026882c00060194132462a37c116882c04006887a002a160193851043155103307024362e2a861e12d7f62d38b42d33a2d36061e17c638800601a1f51042510335103060510151032102334111022,[.c (.b A6)],[.idxS (.t 18) (.t 19),.idxS (.t 21) (.t 22),.idxS (.t 25) (.t 26),.idxS (.t 28) (.t 29)],[.tmp 4],[]⟩
def C14:=pE.R
def B78:AtH:=pE.lj 0 n [m] [x0,x1,x5]
def C2i:=tT [⟨2,3,B78⟩]
def C5u:=mR C14 pE C2i n [a0,a1] h
def A8o:=mL pE C2i 0 n [m] [x0,x1,x5] h
def C1u:=pE.K Tryz.func227
def A92:=pE.S
theorem C6a:SOk A8 227 A92:=C1u.sok
theorem B9T:F6 C14 A92:=C1u.flat
def bA:FD A8:=⟨px 0X3983161e13cc61013113fc2c01c5f1518012f8211c022122462bc285c125d530425303368615607c2e1b131802dc011b4161c61a11983800050192461b3e2a861a201881af2c188361881f61a118819b381883018836062bc2801a4f654306203724366e2a86492bf62e20491af36491f61a14919b3849304936491f62a14919b567497f6491cb7e4937a493601657c61c85a1d11e0193d654306365430533565430521a2702461e17c61c8006041a65430626543053654305162510165430525430437015430423014303215302060513b813022123b91012,[.c (.b A6),.c (.s []),.c (.b A5)],[],[.tmp 2],[cal C6a]⟩
def A9n:=bA.R
def A7t:AtH:=bA.lj 0 n [m] [x0,x3]
def B8b:AtH:=bA.lj 1 n [m,m2] [x0,x3,x4,x5,x6]
def D2Z:AtH:=bA.lj 2 n [m,m2] [x0,x3,x4,x5,x6]
def A2M:=tT [⟨2,2,A7t⟩,⟨3,5,B8b⟩,⟨3,5,D2Z⟩]
def C5w:=mR A9n bA A2M n [a0] h
def C4w:=mL bA A2M 0 n [m] [x0,x3] h
def A8q:=mL bA A2M 1 n [m,m2] [x0,x3,x4,x5,x6] h
def aA:=mJ bA A2M 2 n [m,m2] [x0,x3,x4,x5,x6] h
def C1w:=bA.K Tryz.func184
def A95:=bA.S
theorem C6b:SOk A8 184 A95:=C1w.sok
theorem C3V:oP A9n A95:=C1w.out
end
theorem D3q {a b:List UInt8} {h:B5}:B0s [.c (.s a),.c (.s b)] h=A4 (bV (M7 a b),h) :=
 C0t (n:=0) (h2:=ro h) (by rw [C5S];simp only [esc]) rfl
theorem D1P (s t:List UInt8) (hs:s.length<9223372036854775807) (n:Nat) (h:B5):∀ d i m:Nat,i+d=s.length->d<m->i<=t.length ->
  B78 n m (.c (.s s)) (.c (.s t)) (iV i) h=A4 (bV (M7 (s.drop i) (t.drop i)),h)
 | d,i,0,_,hm,_=>by omega
 | 0,i,m+1,hi,hm,ht=>by
  have h1:¬ ((i:Int)<s.length):=by omega
  have h2:s.drop i=[]:=E7k (by omega);rw [A8o,h2];cases h4:t.drop i with
  | nil =>
   have:¬ (s.length:Int)<t.length:=by have:=congrArg List.length h4;simp at this;omega
   simp only [esc,h1,this,M7]
  | cons x r =>
   have:(s.length:Int)<t.length:=by have:=congrArg List.length h4;simp at this;omega
   simp only [esc,h1,this,M7]
 | d+1,i,m+1,hi,hm,ht=>by
  have h1:(i:Int)<s.length:=by omega
  have h2:i<s.length:=by omega
  rw [A8o,E7d h2];by_cases h3:i<t.length
  ·have h4:(i:Int)<t.length:=by omega
   have ih:=D1P s t hs n h d (i+1) m (by omega) (by omega) (by omega);rw [E7d h3];by_cases c:s[i]=t[i]
   ·simp only [esc,h1,h4,jX h2,jX h3,c,M7,UInt8.lt_irrefl,Bool.false_or,beq_self_eq_true,E7j,D3 (show i+1<9223372036854775808 by omega)];exact ih
   ·have c':¬ (s[i].toNat:Int)=t[i].toNat:=λe=>c (UInt8.toNat_inj.1 (by omega))
    have c2:(s[i]==t[i])=A6:=by simp [c]
    have c3:((s[i].toNat:Int)<t[i].toNat)=(s[i]<t[i]):=by rw [UInt8.lt_iff_toNat_lt];simp
    simp only [esc,h1,h4,jX h2,jX h3,c',c2,M7,c3,E7f,Bool.or_false]
  ·have h4:¬ (i:Int)<t.length:=by omega
   have h5:¬ (s.length:Int)<t.length:=by omega
   have h6:t.drop i=[]:=E7k (by omega);rw [h6];simp only [esc,h1,h4,h5,M7]
theorem B6c {s t:List UInt8} (hs:s.length<9223372036854775807) (h:B5):A92 [.c (.s s),.c (.s t)] h=A4 (bV (M7 s t),h):=by
 refine B9T (n:=s.length+1) (h2:=ro h) ?_ rfl;rw [C5u];have hl:=D1P s t hs (s.length+1) (ro h) s.length 0 (s.length+1) (by omega) (by omega) (by omega);simp only [E7p] at hl;exact hl
section
variable {α:Type} {lt:α -> α -> Prop}
theorem D5E (irr:∀ a,¬ lt a a) (tr:∀ a b c,lt a b->lt b c->lt a c):∀ {l m:List α},l.Pairwise lt->m.Pairwise lt->(∀ x,x∈l↔x∈m)->l=m
 | [],[],_,_,_=>rfl
 | [],y::m,_,_,h=>absurd ((h y).2 (E7u ..)) (by simp)
 | x::l,[],_,_,h=>absurd ((h x).1 (E7u ..)) (by simp)
 | x::l,y::m,hl,hm,h=>by
  rw [List.pairwise_cons] at hl hm;have e:x=y:=by
   rcases List.mem_cons.1 ((h x).1 (E7u ..)) with e | h1
   ·exact e
   ·rcases List.mem_cons.1 ((h y).2 (E7u ..)) with e | h2
    ·exact e.symm
    ·exact absurd (tr _ _ _ (hm.1 x h1) (hl.1 y h2)) (irr y)
  subst e;rw [D5E irr tr hl.2 hm.2 λz=>?_];constructor
  ·intro hz;rcases List.mem_cons.1 ((h z).1 (E7s _ hz)) with e | h1
   ·subst e;exact absurd (hl.1 z hz) (irr z)
   ·exact h1
  ·intro hz;rcases List.mem_cons.1 ((h z).2 (E7s _ hz)) with e | h1
   ·subst e;exact absurd (hm.1 z hz) (irr z)
   ·exact h1
theorem D5F (tr:∀ a b c,lt a b->lt b c->lt a c) (tot:∀ a b,lt a b\/a=b\/lt b a) {l:List α} {x:α} {p:Nat} (hl:l.Pairwise lt) (hx:x ∉ l) (h1:∀ y∈l.take p,lt y x) (h2:∀ y∈l.drop p,¬ lt y x) :
  (l.take p++x::l.drop p).Pairwise lt:=by
 have hl':=hl;rw [<-List.take_append_drop p l] at hl';rw [List.pairwise_append] at hl';obtain ⟨k1,k2,k3⟩:=hl';rw [List.pairwise_append];refine ⟨k1,?_,?_⟩
 ·rw [List.pairwise_cons];refine ⟨λy hy=>?_,k2⟩;rcases tot x y with h | h | h
  ·exact h
  ·subst h;exact absurd (List.mem_of_mem_drop hy) hx
  ·exact absurd h (h2 y hy)
 ·intro a ha b hb;rcases List.mem_cons.1 hb with e | hb
  ·subst e;exact h1 a ha
  ·exact k3 a ha b hb
theorem mem_insert {l:List α} {x y:α} {p:Nat}:y∈l.take p++x::l.drop p↔y=x\/y∈l:=by
 have e:y∈l↔y∈l.take p\/y∈l.drop p:=by rw [<-List.mem_append,List.take_append_drop]
 rw [List.mem_append,List.mem_cons,e];constructor
 ·rintro (h | h | h)
  ·exact .inr (.inl h)
  ·exact .inl h
  ·exact .inr (.inr h)
 ·rintro (h | h | h)
  ·exact .inr (.inl h)
  ·exact .inl h
  ·exact .inr (.inr h)
end
theorem pP:∀ a:List UInt8,M7 a a=A6
 | []=>rfl
 | x::a=>by simp [M7,pP a,UInt8.lt_irrefl]
theorem kQ:∀ {a b c:List UInt8},M7 a b=A5->M7 b c=A5->M7 a c=A5
 | [],[],_,h,_=>by simp [M7] at h
 | [],_::_,[],_,h=>by simp [M7] at h
 | [],_::_,_::_,_,_=>rfl
 | _::_,[],_,h,_=>by simp [M7] at h
 | _::_,_::_,[],_,h=>by simp [M7] at h
 | x::a,y::b,z::c,h1,h2=>by
  simp only [M7,E74,E69,decide_eq_true_eq,beq_iff_eq] at h1 h2 ⊢;rcases h1 with h1 | ⟨rfl,h1⟩
  ·rcases h2 with h2 | ⟨rfl,h2⟩
   ·exact .inl (UInt8.lt_trans h1 h2)
   ·exact .inl h1
  ·rcases h2 with h2 | ⟨rfl,h2⟩
   ·exact .inl h2
   ·exact .inr ⟨rfl,kQ h1 h2⟩
theorem C0Q:∀ a b:List UInt8,M7 a b=A5\/a=b\/M7 b a=A5
 | [],[]=>.inr (.inl rfl)
 | [],_::_=>.inl rfl
 | _::_,[]=>.inr (.inr rfl)
 | x::a,y::b=>by
  simp only [M7,E74,E69,decide_eq_true_eq,beq_iff_eq,List.cons.injEq];rcases Nat.lt_trichotomy x.toNat y.toNat with h | h | h
  ·exact .inl (.inl (UInt8.lt_iff_toNat_lt.2 h))
  ·have e:=UInt8.toNat_inj.1 h;subst e;rcases C0Q a b with h | h | h
   ·exact .inl (.inr ⟨rfl,h⟩)
   ·exact .inr (.inl ⟨rfl,h⟩)
   ·exact .inr (.inr (.inr ⟨rfl,h⟩))
  ·exact .inr (.inr (.inl (UInt8.lt_iff_toNat_lt.2 h)))
def plc (l:List (List UInt8)) (s:List UInt8):Nat->Nat->Nat->Nat
 | 0,lo,_=>lo
 | f+1,lo,hi=>if lo<hi then (if M7 (l.getD (lo+(hi-lo)/2) []) s then plc l s f (lo+(hi-lo)/2+1) hi else plc l s f lo (lo+(hi-lo)/2)) else lo
theorem D6O (l:List (List UInt8)) (s:List UInt8):∀ f lo hi,lo<=hi->plc l s f lo hi<=hi
 | 0,lo,hi,h=>h
 | f+1,lo,hi,h=>by
  unfold plc;split
  ·split
   ·exact D6O l s f _ hi (by omega)
   ·exact E7K (D6O l s f lo _ (by omega)) (by omega)
  ·exact h
theorem C8F {l:List (List UInt8)} {s:List UInt8} (hl:l.Pairwise λa b=>M7 a b=A5):∀ f lo hi,lo<=hi->hi<=l.length->hi-lo<=f->(∀ i x,i<lo->l[i]?=A4 x->M7 x s=A5)->(∀ i x,hi<=i->l[i]?=A4 x->M7 x s=A6) ->
  (∀ i x,i<plc l s f lo hi->l[i]?=A4 x->M7 x s=A5)/\(∀ i x,plc l s f lo hi<=i->l[i]?=A4 x->M7 x s=A6)
 | 0,lo,hi,h,_,hf,h1,h2=>by
  have:hi=lo:=by omega
  subst this;exact ⟨h1,h2⟩
 | f+1,lo,hi,h,hh,hf,h1,h2=>by
  unfold plc;by_cases c:lo<hi
  ·rw [if_pos c];have hm:lo+(hi-lo)/2<hi:=by omega
   have hlo:lo<=lo+(hi-lo)/2:=by omega
   generalize lo+(hi-lo)/2=mid at *;have hg:l[mid]?=A4 (l.getD mid []):=by rw [E7e,E66 (by omega)];rfl
   have mono:∀ (i j:Nat) (x y:List UInt8),i<j->l[i]?=A4 x->l[j]?=A4 y->M7 x y=A5:=by
    intro i j x y hij hi hj;rw [List.pairwise_iff_getElem] at hl;obtain ⟨a,rfl⟩:=List.getElem?_eq_some_iff.1 hi;obtain ⟨b,rfl⟩:=List.getElem?_eq_some_iff.1 hj;exact hl i j a b hij
   cases cb:M7 (l.getD mid []) s with
   | true =>
    rw [if_pos rfl];refine C8F hl f (mid+1) hi (by omega) hh (by omega) (λi x hi hx=>?_) h2;by_cases e:i=mid
    ·subst e;rw [hg] at hx;rw [<-Option.some.inj hx];exact cb
    ·exact kQ (mono i mid x _ (by omega) hx hg) cb
   | false =>
    rw [if_neg (by simp)];refine C8F hl f lo mid (by omega) (by omega) (by omega) h1 (λi x hi hx=>?_);by_cases e:i=mid
    ·subst e;rw [hg] at hx;rw [<-Option.some.inj hx];exact cb
    ·cases cx:M7 x s with
     | false=>rfl
     | true=>rw [kQ (mono mid i _ x (by omega) hg hx) cx] at cb;exact cb
  ·rw [if_neg c];have:hi=lo:=by omega
   subst this;exact ⟨h1,h2⟩
def C4A (l:List (List UInt8)) (s:List UInt8) (n:Nat):Bool:=decide (l[n]?=A4 s)
theorem A5m (l:List (List UInt8)) (i:Nat):(encS l)[i]?=(l[i]?).map λx=>.s x:=by simp [encS]
theorem B6a {v:Val} {nv q:Nat} {l:List (List UInt8)} {s:List UInt8} {h:B5} (hv:Has h v 1 nv (encS l)) (hn:l.length=nv) (h62:nv<4611686018427387904):∀ f m lo hi:Nat,lo<=hi->hi<=nv->hi-lo<=f->f<m ->
  A4z q m v (.c (.s s)) (iV lo) (iV hi) h=A4 (.t [.c (.i .i64 (plc l s f lo hi:Nat)),.c (.b (C4A l s (plc l s f lo hi)))],h)
 | f,0,lo,hi,_,_,_,hm=>by omega
 | f,m+1,lo,hi,h1,h2,hf,hm=>by
  have hlen:=hv.len;have fin:lo=hi->A4z q (m+1) v (.c (.s s)) (iV lo) (iV hi) h=A4 (.t [.c (.i .i64 lo),.c (.b (C4A l s lo))],h):=by
   intro e;subst e;have c0:¬ (lo:Int)<lo:=by omega
   rw [A5N];unfold C4A;by_cases c1:lo<nv
   ·have c1':(lo:Int)<nv:=by omega
    obtain ⟨id,off,ev,hid,k1,k2⟩:=hv.sl (by omega);have hx:=k1 lo (.s l[lo]) (by rw [A5m,E66 (by omega)];rfl);have eb:E1 1 v (iV (lo:Int))=A4 (pV id (off+lo)):=by rw [ev,C9 (by omega)];simp
    have e2:l[lo]?=A4 l[lo]:=E66 (by omega);rw [e2];simp only [esc,hlen,c0,c1',eb,hx]
   ·have c1':¬ (lo:Int)<nv:=by omega
    have e2:l[lo]?=A7:=E7L (by omega);rw [e2];simp only [esc,hlen,c0,c1',reduceCtorEq]
  cases f with
  | zero =>
   have e:lo=hi:=by omega
   exact fin e
  | succ f =>
   unfold plc;by_cases c:lo<hi
   ·rw [if_pos c];have c':(lo:Int)<hi:=by omega
    obtain ⟨id,off,ev,hid,k1,k2⟩:=hv.sl (by omega);have w1:IntKind.wrap .i64 ((hi:Int)-lo)=((hi-lo:Nat):Int):=by rw [wrap_i64 (by omega) (by omega)];omega
    have w2:=A0C (a:=((hi-lo:Nat):Int)) (b:=2) (by omega) (by omega) (by omega);have w3:((hi-lo:Nat):Int)/2=(((hi-lo)/2:Nat):Int):=by omega
    rw [w3] at w2;have w4:IntKind.wrap .i64 ((lo:Int)+(((hi-lo)/2:Nat):Int))=((lo+(hi-lo)/2:Nat):Int):=A1Y (by omega);have hm1:lo+(hi-lo)/2<hi:=by omega
    have hm2:lo<=lo+(hi-lo)/2:=by omega
    generalize (hi-lo)/2=d at *;generalize lo+d=mid at *;have hx:=k1 mid (.s l[mid]) (by rw [A5m,E66 (by omega)];rfl);have eb:E1 1 v (iV (mid:Int))=A4 (pV id (off+mid)):=by rw [ev,C9 (by omega)];simp
    have eg:l.getD mid []=l[mid]:=by rw [E7e,E66 (by omega)];rfl
    rw [eg];have hL:=λh=>D3q (a:=l[mid]) (b:=s) (h:=h)
    rw [A5N];cases cb:M7 l[mid] s with
    | true =>
     rw [cb] at hL;have ih:=B6a (q:=q) (s:=s) hv hn h62 f m (mid+1) hi (by omega) h2 (by omega) (by omega);rw [if_pos rfl];simp only [esc,hlen,c',w1,w2,w4,eb,hx,hL,D3 (show mid+1<9223372036854775808 by omega)];exact ih
    | false =>
     rw [cb] at hL;have ih:=B6a (q:=q) (s:=s) hv hn h62 f m lo mid hm2 (by omega) (by omega) (by omega);rw [if_neg (by simp)];simp only [esc,hlen,c',w1,w2,w4,eb,hx,hL];exact ih
   ·rw [if_neg c];exact fin (by omega)
theorem D0v {v:Val} {nv:Nat} {l:List (List UInt8)} {s:List UInt8} {h:B5} (hv:Has h v 1 nv (encS l)) (h62:nv<4611686018427387904) :
  A0l [v,.c (.s s)] h=A4 (.t [.c (.i .i64 (plc l s nv 0 nv:Nat)),.c (.b (C4A l s (plc l s nv 0 nv)))],h):=by
 have hn:l.length=nv:=by simpa [N3] using hv.length
 have key:∀ N,nv<N->∀ g,Has g v 1 nv (encS l)->∃ g',A6x N [v,.c (.s s)] g=A4 (.t [.c (.i .i64 (plc l s nv 0 nv:Nat)),.c (.b (C4A l s (plc l s nv 0 nv)))],g'):=by
  intro N hN g hv;have e:=B6a (q:=N) (s:=s) hv hn h62 nv N 0 nv (by omega) (by omega) (by omega) hN;rw [C3H];exact ⟨_,by simp only [esc,hv.len];exact e⟩
 obtain ⟨g',e⟩:=key (nv+1) (by omega) (ro h) hv.ro;exact B7z e rfl
theorem D5R {id n a:Nat} (ha:a<=n):D4q 1 (sV id 0 n 1) (A4 (iV (a:Int))) A7=A4 (sV id a (n-a) 1):=by
 simp only [D4q,bound];rw [if_pos (by omega)];simp only [E7h,E7r];rw [if_pos ⟨ha,E7b _,trivial⟩];simp
theorem D9X {H:B5} {id k p:Nat} {out:List (List UInt8)} (hr:rd H id=rT (encS (out++[[]]))) (hk:out.length=k) (hp:p<=k) :
  ∃ c,C6Y H 1 (sV id (p+1) (k-p) 1) (sV id p (k+1-p) 1)=A4 (c,H.set id (rT (encS ((out++[[]]).take (p+1)++out.drop p)))):=by
 have hl:(encS (out++[[]])).length=k+1:=by rw [N3];simp [hk]
 have h1:((encS (out++[[]])).drop p).take (k+1-p)=(encS (out++[[]])).drop p:=E7i (by rw [E72];omega);have h2:P8 H 1 (sV id p (k+1-p) 1)=A4 ((encS (out++[[]])).drop p):=by
  simp only [P8,if_true,iE,hr,E7h,Nat.mul_one,h1];rw [if_pos ⟨by omega,by simp⟩]
 have h3:((encS (out++[[]])).drop p).length=k+1-p:=by rw [E72];omega
 have h4:Nat.min (k+1-p) (k-p)=k-p:=Nat.min_eq_right (by omega);have h5:lay (encS (out++[[]])) (p+1) (((encS (out++[[]])).drop p).take (k-p))=encS ((out++[[]]).take (p+1)++out.drop p):=by
  unfold lay;have e1:((encS (out++[[]])).drop p).take (k-p)=encS (out.drop p):=by
   unfold encS;rw [E71,List.drop_append_of_le_length (by simp;omega),List.take_append_of_le_length (by simp;omega),E7i (by simp;omega),List.map_drop]
  have e2:(encS (out++[[]])).drop (p+1+(encS (out.drop p)).length)=[]:=E7k (by rw [hl,N3,E72];omega);rw [e1,e2];simp only [E7w,encS,E71,List.map_take,List.map_drop]
 refine ⟨iV ((k-p:Nat):Int),?_⟩;simp only [C6Y,h2,E7h,hr,h3,Nat.div_one,h4,Nat.mul_one,h5];rw [if_pos ⟨trivial,by omega,trivial⟩]
abbrev W0:=List (List UInt8)
def atS (o:W0) (s:List UInt8):Nat:=plc o s o.length 0 o.length
def A5H (o:W0) (s:List UInt8):W0:=bif C4A o s (atS o s) then o else o.take (atS o s)++s::o.drop (atS o s)
def gI (l:W0):W0:=l.foldl A5H []
theorem D9L (o:W0) (s:List UInt8):atS o s<=o.length:=D6O o s _ _ _ (Nat.zero_le _)
theorem C22 (o:W0) (s:List UInt8):(A5H o s).length<=o.length+1:=by
 have:=D9L o s;unfold A5H;cases C4A o s (atS o s)<;>simp<;>omega
theorem D24 (l:W0):∀ o:W0,(l.foldl A5H o).length<=o.length+l.length:=by
 induction l with
 | nil=>intro o;simp
 | cons x l ih =>
  intro o;have h1:=ih (A5H o x);have h2:=C22 o x;simp only [List.foldl_cons,E7g] at h1 ⊢;omega
theorem A7S (l:W0):(gI l).length<=l.length:=by
 have:=D24 l [];simpa [gI] using this
abbrev Up (l:W0):Prop:=l.Pairwise λa b=>M7 a b=A5
theorem D4r {o:W0} {s:List UInt8} (ho:Up o):(∀ i x,i<atS o s->o[i]?=A4 x->M7 x s=A5)/\(∀ i x,atS o s<=i->o[i]?=A4 x->M7 x s=A6) :=
 C8F ho o.length 0 o.length (Nat.zero_le _) (E7b _) (by omega) (λi x hi=>by omega) (λi x hi hx=>by
  have:=(List.getElem?_eq_some_iff.1 hx).1;omega)
theorem D5a {o:W0} {s:List UInt8} (ho:Up o):C4A o s (atS o s)=A5↔s∈o:=by
 unfold C4A;rw [decide_eq_true_eq];constructor
 ·intro h;exact E7y h
 ·intro h;obtain ⟨i,hi⟩:=List.mem_iff_getElem?.1 h;obtain ⟨h1,h2⟩:=D4r (s:=s) ho;have hge:atS o s<=i:=by
   false_or_by_contra
   have:=h1 i s (by omega) hi;rw [pP] at this;cases this
  by_cases e:atS o s=i
  ·rw [e];exact hi
  ·have O9:=(List.getElem?_eq_some_iff.1 hi).1;have hg:o[atS o s]?=A4 o[atS o s]:=E66 (by omega);have k1:=h2 _ _ (E7b _) hg;have k2:M7 o[atS o s] s=A5:=by
    obtain ⟨a,ha⟩:=List.getElem?_eq_some_iff.1 hi;have:=List.pairwise_iff_getElem.1 ho (atS o s) i (by omega) a (by omega);rw [ha] at this;exact this
   rw [k1] at k2;cases k2
theorem E2o {o:W0} {s:List UInt8} (ho:Up o):Up (A5H o s)/\∀ x,x∈A5H o s↔x=s\/x∈o:=by
 unfold A5H;cases c:C4A o s (atS o s) with
 | true =>
  have hm:=(D5a ho).1 c;rw [cond_true];exact ⟨ho,λx=>⟨λh=>.inr h,λh=>by rcases h with h | h;subst h;exact hm;exact h⟩⟩
 | false =>
  have hm:s ∉ o:=λh=>by rw [(D5a ho).2 h] at c;cases c
  obtain ⟨h1,h2⟩:=D4r (s:=s) ho;rw [cond_false];refine ⟨D5F (lt:=λa b=>M7 a b=A5) (λa b c=>kQ) (λa b=>C0Q a b) ho hm (λy hy=>?_) (λy hy=>?_),λx=>mem_insert⟩
  ·obtain ⟨i,hi⟩:=List.mem_iff_getElem?.1 hy;have hl:=(List.getElem?_eq_some_iff.1 hi).1;rw [E7A] at hl;rw [E7G (by omega)] at hi;exact h1 i y (by omega) hi
  ·obtain ⟨i,hi⟩:=List.mem_iff_getElem?.1 hy;rw [E7W] at hi;have:=h2 _ y (by omega) hi;rw [this];simp
theorem D43 (l:W0):∀ o:W0,Up o->Up (l.foldl A5H o)/\∀ x,x∈l.foldl A5H o↔x∈o\/x∈l:=by
 induction l with
 | nil=>intro o ho;exact ⟨ho,λx=>by simp⟩
 | cons y l ih =>
  intro o ho;obtain ⟨h1,h2⟩:=E2o (s:=y) ho;obtain ⟨h3,h4⟩:=ih _ h1;refine ⟨h3,λx=>?_⟩;rw [List.foldl_cons,h4,h2,List.mem_cons];constructor
  ·rintro ((h | h) | h)
   ·exact .inr (.inl h)
   ·exact .inl h
   ·exact .inr (.inr h)
  ·rintro (h | h | h)
   ·exact .inl (.inr h)
   ·exact .inl (.inl h)
   ·exact .inr h
theorem E1C (l:W0):Up (gI l):=(D43 l [] List.Pairwise.nil).1
theorem B2H (l:W0) (x:List UInt8):x∈gI l↔x∈l:=by
 have:=(D43 l [] List.Pairwise.nil).2 x;simpa [gI] using this
theorem E4Q {l m:W0} (hl:Up l) (hm:Up m) (h:∀ x,x∈l↔x∈m):l=m :=
 D5E (lt:=λa b=>M7 a b=A5) (λa=>by rw [pP];simp) (λa b c=>kQ) hl hm h
theorem C1k {v:Val} {nv q:Nat} {l:W0} {g:B5} (hv:Has g v 1 nv (encS l)) (hn:l.length=nv) (h62:nv<1073741824):∀ (e i m:Nat) (o:W0) (h:B5) (id:Nat),i+e=nv->e<m->o.length<=i->Low g.length g h->g.length<=id->rd h id=rT (encS o) ->
  ∃ v2 h2,B8F q m (sV id 0 o.length 1) v (iV nv) (iV i) h=A4 (v2,h2)/\Out g.length h2 v2 1 ((l.drop i).foldl A5H o).length (encS ((l.drop i).foldl A5H o))
 | e,i,0,o,h,id,_,hm,_,_,_,_=>by omega
 | 0,i,m+1,o,h,id,hi,hm,hol,hlow,hid,hr=>by
  have e0:i=nv:=by omega
  subst e0;have c0:¬ (i:Int)<i:=by omega
  rw [A8M,E7k (by omega),List.foldl_nil];exact ⟨_,_,by simp only [esc,c0]<;>rfl,by rw [N3];omega,_,rfl,hid,hr⟩
 | e+1,i,m+1,o,h,id,hi,hm,hol,hlow,hid,hr=>by
  have c0:(i:Int)<nv:=by omega
  obtain ⟨jd,off,ev,hjd,k1,k2⟩:=(hv.since hlow).sl (by omega);have hx:=k1 i (.s l[i]) (by rw [A5m,E66 (by omega)];rfl);have eb:E1 1 v (iV (i:Int))=A4 (pV jd (off+i)):=by rw [ev,C9 (by omega)];simp
  have hP:=D0v (s:=l[i]) (Has.row (sz:=1) (n:=o.length) hr (by rw [N3];omega) (B8H o)) (by omega);rw [E7d (by omega:i<l.length),List.foldl_cons];change A0l _ h=A4 (.t [.c (.i .i64 (atS o l[i]:Nat)),.c (.b (C4A o l[i] (atS o l[i])))],h) at hP;have hat:=D9L o l[i];rw [A8M];generalize hs:l[i]=s at *;cases c:C4A o s (atS o s) with
  | true =>
   have ei:A5H o s=o:=by unfold A5H;rw [c,cond_true]
   rw [c] at hP;obtain ⟨v2,h2,f1,f2⟩:=C1k (q:=q) hv hn h62 e (i+1) m o h id (by omega) (by omega) (by omega) hlow hid hr;rw [ei];refine ⟨v2,h2,?_,f2⟩;simp only [esc,c0,eb,hx,hP,A8L,D3 (show i+1<9223372036854775808 by omega)];exact f1
  | false =>
   have ei:A5H o s=o.take (atS o s)++s::o.drop (atS o s):=by unfold A5H;rw [c,cond_false]
   rw [c] at hP;have il:=C22 o s;generalize hp:atS o s=p at *;obtain ⟨h1,a1,a2,a3,a4,a5⟩:=push (ys:=[.s []]) (sz:=1) (n:=o.length) hlow hr (by rw [N3];omega) hid rfl (by omega) (by omega);have he:encS o++[.s []]=encS (o++[[]]):=by simp [encS]
   rw [he] at a2;have ef:E4 [Cell.s []] [(0,1,.c (.s []))]=A4 [.s []]:=rfl;have w1:IntKind.wrap .i64 ((p:Int)+1)=((p+1:Nat):Int):=D3 (by omega);have t1:=D5R (id:=h.length+1) (n:=o.length+1) (a:=p+1) (by omega);have t2:=D5R (id:=h.length+1) (n:=o.length+1) (a:=p) (by omega);rw [show o.length+1-(p+1)=o.length-p by omega] at t1;obtain ⟨cc,t3⟩:=D9X (H:=h1) (id:=h.length+1) (k:=o.length) (p:=p) a2 rfl hat;have t4:E1 1 (sV (h.length+1) 0 (o.length+1) 1) (iV (p:Int))=A4 (pV (h.length+1) p):=by rw [C9 (by omega)];simp
   have V5:=C8 a2;have t5:rd (h1.set (h.length+1) (rT (encS ((o++[[]]).take (p+1)++o.drop p)))) (h.length+1)=rT (encS ((o++[[]]).take (p+1)++o.drop p)):=C6 V5;have t6:=G9 (x:=.s s) (off:=p) t5 (by rw [N3,E7a,E7A,E7a];simp;omega);have t7:(encS ((o++[[]]).take (p+1)++o.drop p)).set p (.s s)=encS (A5H o s):=by
    rw [ei];have e1:(o++[[]]).take (p+1)=o.take p++[(o++[[]])[p]'(by simp;omega)]:=by
     rw [E7n (by simp;omega),List.take_append_of_le_length hat]
    rw [e1];unfold encS;rw [<-List.map_set]
    congr 1
    rw [E7c,E7I _ _ (by simp;omega),E7A,E73 hat,E7R];rfl
   rw [List.set_set,t7] at t6;obtain ⟨v2,h2,f1,f2⟩:=C1k (q:=q) hv hn h62 e (i+1) m (A5H o s) (h1.set (h.length+1) (rT (encS (A5H o s)))) (h.length+1) (by omega) (by omega) (by omega) (a3.set a4 _) a4 (C6 V5);have el:(A5H o s).length=o.length+1:=by rw [ei];simp;omega
   rw [el] at f1;refine ⟨v2,h2,?_,f2⟩;simp only [esc,c0,eb,hx,hP,ef,a1,w1,t1,t2,t3,t4,t6,A8L,D3 (show i+1<9223372036854775808 by omega)];exact f1
theorem D3r {v:Val} {nv:Nat} {l:W0} {h:B5} (hv:Has h v 1 nv (encS l)) (h62:nv<1073741824) :
  B0v [v] h=A4 (sV h.length 0 (gI l).length 1,h++[rT (encS (gI l))]):=by
 have hn:l.length=nv:=by simpa [N3] using hv.length
 have key:∀ N,nv<N->∀ g,Has g v 1 nv (encS l)->∃ v2 g',A9D N [v] g=A4 (v2,g')/\Out g.length g' v2 1 (gI l).length (encS (gI l)):=by
  intro N hN g hv;obtain ⟨v2,g',f1,f2⟩:=C1k (q:=N) hv hn h62 nv 0 N [] ((g++[rT []])++[rT []]) (g.length+1) (by omega) hN (E7b _) (((Low.refl (E7b _)).new _).new _) (by omega) (by simp [encS]);rw [E7p] at f2;rw [C5U];refine ⟨v2,g',?_,f2⟩;rw [hv.len,P9];simpa using f1
 obtain ⟨v2,g',e,ho⟩:=key (nv+1) (by omega) (ro h) hv.ro;exact C4o e (by simpa [F7] using ho) (by simp)
def V3 (l:List Ent):List Cell:=(l.map λx=>W2 (A4 x)).flatten
theorem A7r {l:List Ent}:(V3 l).length=l.length*2:=by
 induction l with
 | nil=>rfl
 | cons x l ih=>simp only [V3,E79,List.flatten_cons,E7a,W2,E7g,E7v] at ih ⊢;omega
theorem E0g {k:Nat} {x:Ent} {r:List Cell}:List.drop ((k+1)*2) (W2 (A4 x)++r)=List.drop (k*2) r:=by
 rw [show (k+1)*2=k*2+2 by omega];rfl
theorem B75:∀ (l:List Ent) (k:Nat) (hk:k<l.length),((V3 l).drop (k*2)).take 2=W2 (A4 l[k])
 | [],k,hk=>by simp at hk
 | x::l,0,_=>rfl
 | x::l,k+1,hk=>by
  have e:V3 (x::l)=W2 (A4 x)++V3 l:=rfl;rw [e,E0g,List.getElem_cons_succ];exact B75 l k (by simpa using hk)
def fQ (l:List Ent) (k:Nat):Ent:=l.getD k ([],0)
theorem B74 {l:List Ent} {k:Nat} (hk:k<l.length):fQ l k=l[k]:=by simp [fQ,List.getD,hk]
def jG (l:List Ent):Nat->List UInt8
 | 0=>hdB
 | k+1=>J1 (jG l k) (K9 k) (Y2 (fQ l k).1 (fQ l k).2)
theorem gH {l:List Ent}:∀ k,k<=7->(jG l k).length=256
 | 0,_=>A7A
 | k+1,hk=>by rw [jG,P5 (by rw [gH k (by omega),Y3];unfold K9;omega)];exact gH k (by omega)
def atX (b nm:List UInt8):Nat:=match W7 b nm with
 | some x=>x.1
 | none=>0
theorem E4I {o:Option Slt}:(slC o)[0]?=A4 (.i .i64 ((match o with | some x=>x.1 | none=>0:Nat):Int)):=by cases o<;>rfl
def D1V (l:List Ent) (k:Nat):Bool:=decide (atX (jG l l.length) (fQ l k).1=k)
def B8P (l:List Ent):Bool:=(E7M 0 l.length).all (D1V l)
def D0q (l:List Ent):Bool:=l.all λx=>A15 x.1 x.2
theorem E0T {v:Val} {nv q:Nat} {l:List Ent} {B:B5} {g:Nat} (hv:Has B v 2 nv (V3 l)) (hn:l.length=nv) (h7:nv<=7) (hg:rd B g=rT (B4 (zeros 256))):∀ (e k m:Nat) (h:B5),k+e=nv->e<m->Low B.length B h->rd h B.length=rT (B4 (jG l nv)) ->
  ∃ h',B3J q m (.c (.p g 0)) (.c (.p B.length 0)) v (.c (.i .i64 (nv:Int))) (.c (.i .i64 (k:Int))) h=A4 (.t [.a (B4 (bif (E7M k e).all (D1V l) then jG l nv else zeros 256)),.c (.i .i64 (bif (E7M k e).all (D1V l) then 0 else 5))],h')
 | e,k,0,h,_,hm,_,_=>by omega
 | 0,k,m+1,h,hk,hm,hlow,hr=>by
  have e0:k=nv:=by omega
  subst e0;have c0:¬ (k:Int)<k:=by omega
  have hL:(B4 (jG l k)).length=256:=by rw [A9];exact gH k h7
  have hz:(B4 (zeros 256)).length=256:=by rw [A9];exact zeros_length
  have hrg:=hlow.rd hg;have s1:=C7 hr hL;have s2:=storeAll (xs:=B4 (jG l k)) hrg hz hL;have s3:=C7 (h:=h.set g (rT (B4 (jG l k)))) (id:=g) (C6 (C8 hrg)) hL;rw [A5c,List.range'_zero,List.all_nil,cond_true,cond_true];generalize B4 (jG l k)=y at *;exact ⟨_,by simp only [esc,c0,s1,s2,s3]<;>rfl⟩
 | e+1,k,m+1,h,hk,hm,hlow,hr=>by
  have c0:(k:Int)<nv:=by omega
  have hL:(B4 (jG l nv)).length=256:=by rw [A9];exact gH nv h7
  have hvB:Has h v 2 nv (V3 l):=by
   refine hv.low hlow λid off m he=>?_
   rcases hv with ⟨rfl,_⟩ | ⟨bF,off',r',rfl,hrd,_⟩
   ·cases he
   ·cases he;exact C8 hrd
  obtain ⟨id,off,ev,hid,k1,k2⟩:=hvB.sl (by omega);have eb:E1 2 v (.c (.i .i64 (k:Int)))=A4 (.c (.p id (off+k*2))):=by rw [ev,C9 (by omega)]
  have hld:=k2 (k*2) 2 (by rw [A7r];omega);rw [B75 l k (by omega),<-B74 (by omega)] at hld;have w1:=D3 (show k+1<9223372036854775808 by omega);have hF:=λh=>B0W (b:=jG l nv) (nm:=(fQ l k).1) (h:=h) (gH nv h7)
  have s1:=λt=>C7 (h:=h++t) (C5 hr) hL
  have hat:(slC (W7 (jG l nv) (fQ l k).1))[0]?=A4 (.i .i64 (atX (jG l nv) (fQ l k).1:Nat)):=E4I;have hSl:=mB (o:=W7 (jG l nv) (fQ l k).1);rw [A5c,List.range'_succ,E7P];have hon:D1V l k=decide (atX (jG l nv) (fQ l k).1=k):=by unfold D1V;rw [hn]
  rw [hon];generalize slC (W7 (jG l nv) (fQ l k).1)=S at *;generalize atX (jG l nv) (fQ l k).1=A at *;obtain ⟨h',ih⟩:=E0T (q:=q) hv hn h7 hg e (k+1) m (h++[rT (W2 (A4 (fQ l k))),rT S]) (by omega) (by omega) (hlow.new _) (C5 hr);simp only [W2] at *;by_cases c:A=k
  ·subst c;rw [decide_eq_true rfl,E7j];refine ⟨h',?_⟩;generalize B4 (jG l nv)=y at *;simp only [esc,esh,Nat.reduceAdd,Nat.reduceMul,Nat.reduceLT,c0,eb,hld,s1,hF,hat,hSl,w1];exact ih
  ·rw [decide_eq_false c,E7f,cond_false,cond_false];have c':¬ (A:Int)=k:=by omega
   have hz:(B4 (zeros 256)).length=256:=by rw [A9];exact zeros_length
   have hrg:=λt:B5=>C5 (g:=t) (hlow.rd hg)
   have haf:E4 (E68 256 (Cell.i .u8 0)) []=A4 (E68 256 (Cell.i .u8 0)):=rfl;rw [I7] at haf;have s2:=λt=>storeAll (xs:=B4 (zeros 256)) (hrg t) hz hz
   have s3:=λt=>C7 (h:=(h++t).set g (rT (B4 (zeros 256)))) (id:=g) (C6 (C8 (hrg t))) hz
   rw [I7];generalize zeros 256=z at *;generalize B4 (jG l nv)=y at *;exact ⟨_,by simp only [esc,esh,Nat.reduceAdd,Nat.reduceMul,Nat.reduceLT,c0,eb,hld,s1,hF,hat,hSl,c',haf,s2,s3]<;>rfl⟩
theorem E0S {v:Val} {nv q:Nat} {l:List Ent} {B:B5} {g:Nat} (hv:Has B v 2 nv (V3 l)) (hn:l.length=nv) (h7:nv<=7) (hs:∀ x∈l,x.1.length<=60) (hg:rd B g=rT (B4 (zeros 256))) (hq:nv<q):∀ (e k m:Nat) (h:B5),k+e=nv->e<m->Low B.length B h->rd h B.length=rT (B4 (jG l k)) ->
  ∃ h',B3I q m v (.c (.p g 0)) (.c (.p B.length 0)) v (.c (.i .i64 (nv:Int))) (.c (.i .i64 (k:Int))) h=A4 (.t [.a (B4 (bif D0q (l.drop k)&&B8P l then jG l nv else zeros 256)),.c (.i .i64 (bif D0q (l.drop k) then (bif B8P l then 0 else 5) else 1))],h')
 | e,k,0,h,_,hm,_,_=>by omega
 | 0,k,m+1,h,hk,hm,hlow,hr=>by
  have e0:k=nv:=by omega
  subst e0;have c0:¬ (k:Int)<k:=by omega
  have hvB:Has h v 2 k (V3 l):=by
   refine hv.low hlow λid off m he=>?_
   rcases hv with ⟨rfl,_⟩ | ⟨bF,off',r',rfl,hrd,_⟩
   ·cases he
   ·cases he;exact C8 hrd
  obtain ⟨h',e⟩:=E0T (q:=q) hv hn h7 hg k 0 q h (by omega) hq hlow hr;have em:D0q (l.drop k)=A5:=by rw [E7k (by omega)];rfl
  have eo:(E7M 0 k).all (D1V l)=B8P l:=by unfold B8P;rw [hn]
  rw [eo] at e;rw [A5b,em,E7j,cond_true];exact ⟨h',by simp only [esc,c0,hvB.len];exact e⟩
 | e+1,k,m+1,h,hk,hm,hlow,hr=>by
  have c0:(k:Int)<nv:=by omega
  have hNl:=gH (l:=l) k (by omega);have hL:(B4 (jG l k)).length=256:=by rw [A9];exact hNl
  have hvB:Has h v 2 nv (V3 l):=by
   refine hv.low hlow λid off m he=>?_
   rcases hv with ⟨rfl,_⟩ | ⟨bF,off',r',rfl,hrd,_⟩
   ·cases he
   ·cases he;exact C8 hrd
  obtain ⟨id,off,ev,hid,k1,k2⟩:=hvB.sl (by omega);have eb:E1 2 v (.c (.i .i64 (k:Int)))=A4 (.c (.p id (off+k*2))):=by rw [ev,C9 (by omega)]
  have hld:=k2 (k*2) 2 (by rw [A7r];omega);rw [B75 l k (by omega),<-B74 (by omega)] at hld;have w1:=D3 (show k+1<9223372036854775808 by omega);have hsk:(fQ l k).1.length<=60:=by rw [B74 (by omega)];exact hs _ (E7J _)
  have hM:=λh=>A4e (s:=(fQ l k).1) (n:=(fQ l k).2) (h:=h) (by omega)
  have hW:=λh=>rX (s:=(fQ l k).1) (n:=(fQ l k).2) (h:=h) (by omega)
  have hF:=λh=>oO (k:=k) (h:=h) (by omega)
  have hmd:D0q (l.drop k)=(A15 (fQ l k).1 (fQ l k).2&&D0q (l.drop (k+1))):=by
   rw [E7d (by omega:k<l.length),B74 (by omega)];rfl
  have hEl:(Y2 (fQ l k).1 (fQ l k).2).length=32:=Y3;have hLy:=B58 (v:=.c (.sl (h.length+1) 0 32 1)) (nv:=32) (data:=Y2 (fQ l k).1 (fQ l k).2) (l:=jG l k) (h:=h++[rT (W2 (A4 (fQ l k))),rT (B4 (Y2 (fQ l k).1 (fQ l k).2))]) (Has.row (rw:=A5) (by simp) (by rw [A9,Y3]) (F9 _)) hNl (by rw [hEl];omega) (a:=(K9 k:Nat));have elay:A86 (jG l k) (K9 k:Nat) (Y2 (fQ l k).1 (fQ l k).2)=jG l (k+1):=by
   unfold A86;have:K9 k<256:=by unfold K9;omega
   rw [if_pos ⟨by omega,by omega⟩,E7r,E7i (by rw [hEl];unfold K9;omega)];rfl
  rw [elay] at hLy;have hq2:quiet (h++[rT (W2 (A4 (fQ l k)))]) (A4 (.c (.sl (h.length+1) 0 32 1),h++[rT (W2 (A4 (fQ l k))),rT (B4 (Y2 (fQ l k).1 (fQ l k).2))]))=_:=E4A;have hrk:∀ t:B5,rd (h++t) B.length=rT (B4 (jG l k)):=λt=>C5 hr
  have s1:=λt=>C7 (h:=h++t) (hrk t) hL
  have hN1:(B4 (jG l (k+1))).length=256:=by rw [A9];exact gH (k+1) (by omega)
  have s2:=λt=>storeAll (h:=h++t) (xs:=B4 (jG l (k+1))) (hrk t) hL hN1
  obtain ⟨h',ih⟩:=E0S (q:=q) hv hn h7 hs hg hq e (k+1) m ((h++[rT (W2 (A4 (fQ l k))),rT (B4 (Y2 (fQ l k).1 (fQ l k).2))]).set B.length (rT (B4 (jG l (k+1))))) (by omega) (by omega) ((hlow.new _).set (E7b _) _) (C6 (C8 (hrk _)));rw [A5b,hmd];generalize Y2 (fQ l k).1 (fQ l k).2=E at *;simp only [W2] at *;cases cm:A15 (fQ l k).1 (fQ l k).2 with
  | true =>
   rw [cm] at hM;rw [E7j];refine ⟨h',?_⟩;generalize B4 (jG l (k+1))=y1 at *;generalize B4 (jG l k)=y at *;simp only [esc,esh,Nat.reduceAdd,Nat.reduceMul,Nat.reduceLT,c0,eb,hld,hM,hF,hW,hq2,s1,hLy,s2,w1];exact ih
  | false =>
   rw [cm] at hM;rw [E7f,E7f,cond_false,cond_false];have hz:(B4 (zeros 256)).length=256:=by rw [A9];exact zeros_length
   have hrg:=λt:B5=>C5 (g:=t) (hlow.rd hg)
   have haf:E4 (E68 256 (Cell.i .u8 0)) []=A4 (E68 256 (Cell.i .u8 0)):=rfl;rw [I7] at haf;have s2:=λt=>storeAll (xs:=B4 (zeros 256)) (hrg t) hz hz
   have s3:=λt=>C7 (h:=(h++t).set g (rT (B4 (zeros 256)))) (id:=g) (C6 (C8 (hrg t))) hz
   rw [I7];generalize zeros 256=z at *;exact ⟨_,by simp only [esc,esh,Nat.reduceAdd,Nat.reduceMul,Nat.reduceLT,c0,eb,hld,hM,haf,s2,s3]<;>rfl⟩
def D5j (l:List Ent):Int:=if 7<l.length then 11 else if D0q l=A5 then (if B8P l=A5 then 0 else 5) else 1
def bN (l:List Ent):List UInt8:=if D5j l=0 then jG l l.length else zeros 256
theorem pY {l:List Ent}:(bN l).length=256:=by
 unfold bN;split
 ·rename_i h;refine gH _ ?_
  false_or_by_contra
  unfold D5j at h;rw [if_pos (by omega)] at h;omega
 ·exact zeros_length
theorem C92 {v:Val} {nv:Nat} {l:List Ent} {h:B5} (hv:Has h v 2 nv (V3 l)) (hs:∀ x∈l,x.1.length<=60):A6A [v] h=A4 (.t [.a (B4 (bN l)),.c (.i .i64 (D5j l))],h):=by
 have hn:l.length=nv:=by have:=hv.length;rw [A7r] at this;omega
 have key:∀ g,Has g v 2 nv (V3 l)->∃ g',A6f 8 [v] g=A4 (.t [.a (B4 (bN l)),.c (.i .i64 (D5j l))],g'):=by
  intro g hv;have hz:(B4 (zeros 256)).length=256:=by rw [A9];exact zeros_length
  have hd:(B4 hdB).length=256:=by rw [A9];exact A7A
  have hl:=hv.len;have hH:=λh=>C7c (h:=h)
  rw [C3h,I7];by_cases c:7<nv
  ·have c0:(7:Int)<nv:=by omega
   have e1:D5j l=11:=by unfold D5j;rw [if_pos (by omega)]
   have e2:bN l=zeros 256:=by unfold bN;rw [e1,if_neg (by omega)]
   have haf:E4 (E68 256 (Cell.i .u8 0)) []=A4 (E68 256 (Cell.i .u8 0)):=rfl;rw [I7] at haf;rw [e1,e2];generalize zeros 256=z at *;exact ⟨_,by simp only [esc,esh,Nat.reduceAdd,Nat.reduceMul,Nat.reduceLT,hl,c0,haf,hz]<;>rfl⟩
  ·have c0:¬ (7:Int)<nv:=by omega
   obtain ⟨h',e⟩:=E0S (q:=8) (B:=g++[rT (B4 (zeros 256))]) (g:=g.length) (hv.more _) hn (by omega) hs (by simp) (by omega) nv 0 8 (g++[rT (B4 (zeros 256)),rT (B4 (jG l 0))]) (by omega) (by omega)
    (by have:=(Low.refl (h:=g++[rT (B4 (zeros 256))]) (E7b _)).new [rT (B4 (jG l 0))];simpa using this) (by simp)
   have e1:D5j l=(bif D0q l then (bif B8P l then 0 else 5) else 1):=by
    unfold D5j;rw [if_neg (by omega)];cases D0q l<;>cases B8P l<;>simp
   have e2:bN l=(bif D0q l&&B8P l then jG l nv else zeros 256):=by
    unfold bN;rw [e1,<-hn];cases D0q l<;>cases B8P l<;>simp
   rw [E7p,<-e1,<-e2] at e;rw [show jG l 0=hdB from rfl] at e;simp only [E7a,E7g,E7v,E7t] at e;refine ⟨h',?_⟩;generalize bN l=R at *;generalize hdB=H at *;generalize zeros 256=z at *;simp only [esc,esh,Nat.reduceAdd,Nat.reduceMul,Nat.reduceLT,hl,c0,hH,hz,hd];exact e
 obtain ⟨g',e⟩:=key (ro h) hv.ro;exact B69 e (by simp)
def MapN (es:W9) (f:List UInt8->Int) (l:W0):Prop:=(∀ e∈es,∃ s,e.1=.s s)/\∀ s∈l,∃ i,B1Q (.s s) es=A4 (i,.c (.i .i64 (f s)))
theorem D7D {es:W9} {s:List UInt8} (h:∀ e∈es,∃ s,e.1=Cell.s s):A4u A7 (.s s) es=A5:=by
 simp only [A4u,tQ,E7j,E70];intro e he;obtain ⟨x,hx⟩:=h e he;rw [hx]
theorem D7J {k:Cell} {p:Part}:∀ {es:W9} {i j:Nat} {q:Part},mgo k es i=A4 (j,q)->(es.set (j-i) (k,p)).length=es.length/\mgo k (es.set (j-i) (k,p)) i=A4 (j,p)/\i<=j/\∀ k'≠k,((mgo k' (es.set (j-i) (k,p)) i)=mgo k' es i)
 | [],i,j,q,h=>by simp [mgo] at h
 | e::es,i,j,q,h=>by
  unfold mgo at h;by_cases c:e.1=k
  ·rw [if_pos c] at h;cases h;simp only [E7R,E7T];refine ⟨rfl,by simp [mgo],E7b _,λk' hk'=>?_⟩;have:¬ e.1=k':=λh=>hk' (by rw [<-h,c])
   simp [mgo,this,Ne.symm hk']
  ·rw [if_neg c] at h;obtain ⟨h1,h2,h3,h4⟩:=D7J (p:=p) h;have e1:j-i=(j-(i+1))+1:=by omega
   rw [e1,E7U];refine ⟨by simp,?_,by omega,λk' hk'=>?_⟩
   ·simp only [mgo];rw [if_neg c];exact h2
   ·simp only [mgo];rw [h4 k' hk']
theorem D5g {k k':Cell} {p:Part}:∀ {es:W9} {i:Nat},mgo k es i=A7->mgo k' (es++[(k,p)]) i=if k'=k then A4 (i+es.length,p) else mgo k' es i
 | [],i,_=>by
  by_cases c:k'=k
  ·subst c;simp [mgo]
  ·simp [mgo,c,Ne.symm c]
 | e::es,i,h=>by
  unfold mgo at h;by_cases c:e.1=k
  ·rw [if_pos c] at h;cases h
  ·rw [if_neg c] at h;have ih:=D5g (k':=k') (p:=p) h;simp only [E7E,mgo,ih];by_cases c2:k'=k
   ·subst c2;rw [if_neg c,if_pos rfl,if_pos rfl,E7g]
    congr 2;omega
   ·simp only [if_neg c2]
theorem A0T {k k':Cell} {p:Part} {es:W9}:B1Q k (A88 k p es)=A4 (((B1Q k es).map (·.1)).getD es.length,p)/\(k'≠k->B1Q k' (A88 k p es)=B1Q k' es):=by
 unfold A88 B1Q;cases c:mgo k es 0 with
 | none =>
  simp only [D5g c];exact ⟨by simp,λh=>by rw [if_neg h]⟩
 | some jq =>
  obtain ⟨j,q⟩:=jq;obtain ⟨_,h2,_,h4⟩:=D7J (p:=p) c;simp only [Nat.sub_zero] at h2 h4;exact ⟨by simp [h2],λh=>h4 k' h⟩
theorem C1c {k:Cell} {p:Part} {es:W9} {Q:Cell->Prop} (hk:Q k) (h:∀ e∈es,Q e.1):∀ e∈A88 k p es,Q e.1:=by
 intro e he;unfold A88 at he;split at he
 ·rcases E7O he with he | rfl
  ·exact h e he
  ·exact hk
 ·rcases List.mem_append.1 he with he | he
  ·exact h e he
  ·simp at he;subst he;exact hk
theorem MapN.nil (f:List UInt8->Int):MapN [] f []:=⟨λe he=>by simp at he,λs hs=>by simp at hs⟩
theorem MapN.put {es:W9} {f:List UInt8->Int} {l:W0} (hm:MapN es f l) (s:List UInt8):MapN (A88 (.s s) (.c (.i .i64 (f s))) es) f (l++[s]):=by
 refine ⟨C1c (Q:=λc=>∃ s,c=.s s) ⟨s,rfl⟩ hm.1,λx hx=>?_⟩;by_cases c:x=s
 ·subst c;exact ⟨_,(A0T (k':=.mh)).1⟩
 ·rcases List.mem_append.1 hx with hx | hx
  ·obtain ⟨i,hi⟩:=hm.2 x hx;refine ⟨i,?_⟩;rw [(A0T (k:=.s s) (k':=.s x)).2 (by simpa using c)];exact hi
  ·simp at hx;exact absurd hx c
theorem E0L {h:B5} {mid:Nat} {es:W9} {f:List UInt8->Int} {l:W0} {s:List UInt8} (hr:rd h mid=A4 (T1 es)) (hm:MapN es f l) (hs:s∈l):A8j h A7 (.c o0) A6 (.c (.m mid)) (.c (.s s))=A4 (.c (.i .i64 (f s))):=by
 obtain ⟨i,hi⟩:=hm.2 s hs;simp only [A8j,C8a,D8N,hr,E7h,A0S];rw [if_pos (D7D hm.1),hi];rfl
theorem E2C {h:B5} {mid:Nat} {es:W9} {f:List UInt8->Int} {l:W0} {s:List UInt8} {x:Int} (hr:rd h mid=A4 (T1 es)) (hm:MapN es f l):A2O h A7 (.c (.m mid)) (.c (.s s)) (.c (.i .i64 x))=A4 (h.set mid (A4 (T1 (A88 (.s s) (.c (.i .i64 x)) es)))):=by
 simp only [A2O,C8a,C8I,hr,E7h,A0S];rw [if_pos (D7D hm.1)]
theorem A0W {b:List UInt8} {k:Nat} {x:Ent} (h:S3 b k=A4 x):x.1.length<=24:=by
 unfold S3 at h;cases hu:dM (nameB b k) with
 | none=>rw [hu] at h;cases h
 | some s =>
  rw [hu,E7h] at h;split at h
  ·cases h;exact (cX (A7V hu)).2
  ·cases h
theorem A7I {b:List UInt8}:∀ {e k:Nat} {x:Slt},x∈N4 b e k->S3 b x.1=A4 x.2/\k<=x.1/\x.1<k+e
 | 0,k,x,h=>by simp [N4] at h
 | e+1,k,x,h=>by
  cases hr:S3 b k with
  | none =>
   rw [wU hr] at h;have:=A7I h;exact ⟨this.1,by omega,by omega⟩
  | some y =>
   rw [wV hr] at h;rcases List.mem_cons.1 h with rfl | h
   ·exact ⟨hr,E7b _,by dsimp only;omega⟩
   ·have:=A7I h;exact ⟨this.1,by omega,by omega⟩
theorem B2z {b:List UInt8} {x:Slt} (h:x∈N9 b):S3 b x.1=A4 x.2/\x.1<7:=by
 have:=A7I h;exact ⟨this.1,by omega⟩
section
variable {D:Dev} {n k:Int} {d:List Int} {V I:List Cell} {L:List Int} {g h:B5} {rs:List Nat} {c:Nat} {s:List Tld}
end
theorem D4g {n:Nat} {t:List Int} {p b:Nat}:C4r n t p b=A5↔toX t p≠0/\∀ k,k<n->k%2 ^ b=p%2 ^ b->toX t k=toX t p:=by
 unfold C4r A7W W4;simp only [E69,E7V,decide_eq_false_iff_not,E70,List.mem_filter,List.mem_range,beq_iff_eq,decide_eq_true_eq];constructor
 ·rintro ⟨h1,h2⟩;exact ⟨h1,λk hk hm=>h2 k ⟨hk,hm⟩⟩
 ·rintro ⟨h1,h2⟩;exact ⟨h1,λk hk=>h2 k hk.1 hk.2⟩
theorem wN {n:Nat} {t:List Int} {p:Nat}:∀ e b,b<=bQ n t p b e/\bQ n t p b e<=b+e/\(∀ c,b<=c->c<bQ n t p b e->C4r n t p c=A6)/\(bQ n t p b e<b+e->C4r n t p (bQ n t p b e)=A5)
 | 0,b=>⟨E7b _,E7b _,λc h1 h2=>by unfold bQ at h2;omega,λh=>by unfold bQ at h;omega⟩
 | e+1,b=>by
  unfold bQ;cases ca:C4r n t p b with
  | true=>exact ⟨E7b _,by rw [cond_true];omega,λc h1 h2=>by rw [cond_true] at h2;omega,λ_=>by rw [cond_true];exact ca⟩
  | false =>
   obtain ⟨h1,h2,h3,h4⟩:=wN (n:=n) (t:=t) (p:=p) e (b+1);rw [cond_false];refine ⟨by omega,by omega,λc k1 k2=>?_,λk=>h4 (by omega)⟩;by_cases e1:c=b
   ·subst e1;exact ca
   ·exact h3 c (by omega) k2
theorem C67 {d:Int} {t:List Int} {p:Nat}:cE d t p<=W1 d:=by
 have:=(wN (n:=D1 d) (t:=t) (p:=p) (W1 d) 0).2.1;unfold cE;omega
theorem D4v {d:Int} {t:List Int} {p c:Nat} (h:c<cE d t p):C4r (D1 d) t p c=A6:=(wN (n:=D1 d) (t:=t) (p:=p) (W1 d) 0).2.2.1 c (Nat.zero_le _) h
theorem D8h {d:Int} {t:List Int} {p:Nat} (h:cE d t p<W1 d):C4r (D1 d) t p (cE d t p)=A5:=(wN (n:=D1 d) (t:=t) (p:=p) (W1 d) 0).2.2.2 (by unfold cE at h;omega)
theorem C7q {d:Int} {t:List Int} {p k:Nat} (hp:p<D1 d) (hk:k<D1 d) (hm:k%2 ^ cE d t p=p%2 ^ cE d t p):toX t k=toX t p:=by
 by_cases c:cE d t p<W1 d
 ·exact (D4g.1 (D8h c)).2 k hk hm
 ·have e:cE d t p=W1 d:=by have:=C67 (d:=d) (t:=t) (p:=p);omega
  rw [e] at hm;unfold D1 at hp hk;rw [E7Y hp,E7Y hk] at hm;rw [hm]
theorem D6C {a b c x:Nat} (h:c<=x) (hm:a%2 ^ x=b%2 ^ x):a%2 ^ c=b%2 ^ c:=by
 have hd:2 ^ c ∣ 2 ^ x:=Nat.pow_dvd_pow 2 h;rw [<-Nat.mod_mod_of_dvd a hd,<-Nat.mod_mod_of_dvd b hd,hm]
theorem D7w {α:Type} {p r:α -> Bool}:∀ {l:List α},(∀ x∈l,p x=A5->r x=A5)->(l.filter p).length<=(l.filter r).length
 | [],_=>by simp
 | y::l,h=>by
  have h1:=D7w (l:=l) λx hx=>h x (E7s _ hx)
  have h2:=h y (E7u ..);simp only [List.filter_cons];cases hy:p y with
  | true=>rw [h2 hy];simpa using h1
  | false=>cases r y<;>simp<;>omega
theorem D7v {α:Type} {p r:α -> Bool}:∀ {l:List α},(∀ x∈l,p x=A5->r x=A5)->(l.filter p).length=(l.filter r).length->∀ x∈l,r x=p x
 | [],_,_,x,hx=>by cases hx
 | y::l,h,he,x,hx=>by
  have h':∀ x∈l,p x=A5->r x=A5:=λx hx=>h x (E7s _ hx)
  have h1:=D7w h';have h2:=h y (E7u ..);simp only [List.filter_cons] at he;have key:r y=p y/\(l.filter p).length=(l.filter r).length:=by
   cases hy:p y with
   | true =>
    rw [h2 hy];rw [hy,h2 hy] at he;exact ⟨rfl,by simpa using he⟩
   | false =>
    rw [hy] at he;cases hr:r y with
    | true=>rw [hr] at he;simp at he;omega
    | false=>rw [hr] at he;exact ⟨rfl,by simpa using he⟩
  rcases List.mem_cons.1 hx with e | hx
  ·subst e;exact key.1
  ·exact D7v h' key.2 x hx
theorem D2j {d:Int} {t:List Int} {p:Nat} (hp:p<D1 d):A3j d t p=A5↔∀ k,k<D1 d->toX t k=toX t p->k%2 ^ cE d t p=p%2 ^ cE d t p:=by
 unfold A3j;rw [decide_eq_true_eq];unfold W4 sA;constructor
 ·intro he k hk hs;have:=D7v (p:=λk=>k%2 ^ cE d t p==p%2 ^ cE d t p) (r:=λk=>decide (toX t k=toX t p)) (l:=E7C (D1 d)) (λx hx h=>by
   rw [decide_eq_true_eq];exact C7q hp (List.mem_range.1 hx) (by simpa using h)) he k (List.mem_range.2 hk)
  rw [decide_eq_true hs] at this;simpa using this.symm
 ·intro h
  congr 1
  refine List.filter_congr λk hk=>?_
  have hk:=List.mem_range.1 hk;rw [Bool.eq_iff_iff,decide_eq_true_eq,beq_iff_eq];exact ⟨λhm=>C7q hp hk hm,λhs=>h k hk hs⟩
theorem B5W {t:List Int} {i:Nat}:nV t i=A5↔∀ k,k<i->toX t k≠toX t i:=by
 unfold nV;simp only [E70,List.mem_range,E7V,decide_eq_false_iff_not]
theorem D8G {d:Int} {t:List Int} {i:Nat}:A29 d t i=A5↔toX t i≠0/\vF (toX t i)=A5/\(nV t i=A5\/A3j d t i=A5):=by
 unfold A29;simp only [E69,E7V,decide_eq_false_iff_not,E74]
noncomputable section
variable (n m m2:Nat) (a0 a1 x0 x1 x5:Val) (h:B5)
def A0G:FD A8:=⟨px 0X134114125c515607c2e1a13180174114122461a27c4061c61a11984a001c16295104215510330702461e17c61c80060419510425103351030605101510320334111022,[.c (.b A6),.c (.b A5)],[],[.tmp 4],[]⟩
def D02:=A0G.R
def C7E:AtH:=A0G.lj 0 n [m] [x0,x1,x5]
def D09:=tT [⟨2,3,C7E⟩]
def D2p:=mR D02 A0G D09 n [a0,a1] h
def B3T:=mL A0G D09 0 n [m] [x0,x1,x5] h
def D0N:=A0G.K Tryz.func19
def B9W:=A0G.S
theorem B7j:SOk A8 19 B9W:=D0N.sok
theorem C6d:F6 D02 B9W:=D0N.flat
end
noncomputable section
variable (n m m2:Nat) (a0 a1 a2 x0 x1 x2 x3 x4 x5 x6 x7 x8 x9 x10:Val) (h:B5)
def A2c:FD A8:=⟨px 0X14821361e2a87ffffd6191b7f01b3601647c0072123211012,[.c (.b A6)],[],[.tmp 2],[]⟩
def C19:=A2c.R
def C5D:=mR C19 A2c (tT []) n [a0] h
def C1D:=A2c.K Tryz.func179
def B0d:=A2c.S
theorem B0e:SOk A8 179 B0d:=C1D.sok
theorem B95:F6 C19 B0d:=C1D.flat
def uC:FD A8:=⟨px 0X1702dc21611a321ac2802889288917595bd532221d8515607c2c3913182c84163e13cc619211ac64c861c1a614828c144c2c02849119180130123b9232222462bc6101ac61c1a614828c144c2c3b16485414254133155413307024289617c2c2f1238541425413354130605101541324131b8410688282d1341221a84162e13cc61017113fc64f861c044c64ac2f132b121f111b10419411e3fd1841220130123b92322224672a2a82d652a7f62a1f042a4f601617c61c0464d181d1221133013b862ec3112,[.c (.b A6),.c (.b A5),.c (.i .u8 105),.c (.i .u8 100),.c (.i .u8 120),.c (.i .u8 33)],[.appZ 1 ([.i .u8 0]) (.t 21) (.v (.c (.i .i64 27)))],[.tmp 2,.tmp 3],[cal B0e,cal iH,cal iX]⟩
def B4G:=uC.R
def C2W:AtH:=uC.lj 0 n [m] [x1,x4,x5]
def C6S:=tT [⟨2,3,C2W⟩]
def C9y:=mR B4G uC C6S n [a0] h
def B1q:=mL uC C6S 0 n [m] [x1,x4,x5] h
def C5c:=uC.K Tryz.func177
def B5d:=uC.S
theorem B3A:SOk A8 177 B5d:=C5c.sok
theorem C4c:E3f B4G B5d:=C5c.out2
def uB:FD A8:=⟨px 0X168214e1c122124c415607c2a1813185c3119667c3e1a131815430330702461a17c0060374304243033430306051014303231350130221211012,[],[],[.tmp 2],[]⟩
def C5E:=uB.R
def C2V:AtH:=uB.lj 0 n [m] [x0,x3,x4]
def C6R:=tT [⟨2,3,C2V⟩]
def C9x:=mR C5E uB C6R n [a0] h
def B1p:=mL uB C6R 0 n [m] [x0,x3,x4] h
def C5b:=uB.K Tryz.func178
def A6U:=uB.S
theorem nY:SOk A8 178 A6U:=C5b.sok
theorem C4b:F6 C5E A6U:=C5b.flat
def kD:FD A8:=⟨px 0X1731218491de28496b39332222e81815607c485b131801331218491de01f3e833222241637c61c1a614828c1284c485d15691842423518423327024289617c4859125a1842421842331842316252c81816131ac61c0284e4d4184232422301331218491de01f3e83322224672e2a867e2bf61a227e1af07e3387e36062bc3c3d1184c423242231e801dc6112a6801e3b691d83816111ac28493939776420527c515607c4e1e13181a21fa3e614828c1284c1962a301ac628907c61967c6e0005e28119181554204307024289617c3e1c121d542052542043542040605101542042420335c2491de1f42d961011f3e85296301ac0191542032301f22d922022,[.c (.b A6),.c (.b A5)],[],[.cellN 2 33,.tmp 3],[cal rC,cal B3A,cal bO,cal nY]⟩
def B4F:=kD.R
def C2T:AtH:=kD.lj 0 n [m] [x0,x2,x4,x5]
def C2U:AtH:=kD.lj 1 n [m] [x2,x4,x8]
def B5B:=tT [⟨2,4,C2T⟩,⟨2,3,C2U⟩]
def C9w:=mR B4F kD B5B n [a0] h
def B1n:=mL kD B5B 0 n [m] [x0,x2,x4,x5] h
def B1o:=mL kD B5B 1 n [m] [x2,x4,x8] h
def C5a:=kD.K Tryz.func114
def B5c:=kD.S
theorem C9S:SOk A8 114 B5c:=C5a.sok
theorem C4a:F6 B4F B5c:=C5a.flat
def A2b:FD A8:=⟨px 0X1582161c04194d3212012d211212242d657c61c0464d318122113011211212241617c61c044c351221131062ec2112,[],[],[.tmp 2],[]⟩
def A9r:=A2b.R
def C5C:=mR A9r A2b (tT []) n [a0] h
def C1C:=A2b.K Tryz.func181
def B0b:=A2b.S
theorem B0c:SOk A8 181 B0b:=C1C.sok
theorem B94:F6 A9r B0b:=C1C.flat
def B2j:FD A8:=⟨px 0X17c6162e27c261e187c6101ac5a04061e187c6101ac3a00018019613361121032,[.c (.b A6)],[],[.tmp 6],[cal nY]⟩
def B9p:=B2j.R
def D2s:=mR B9p B2j (tT []) n [a0,a1,a2] h
def D0Q:=B2j.K Tryz.func222
def B96:=B2j.S
theorem D2F:SOk A8 222 B96:=D0Q.sok
theorem C6l:F6 B9p B96:=D0Q.flat
def T2:FD A8:=⟨px 0X130141254222b81815607c484d1318011b03ec4148035422244c7c117c18621522ec1a15607c585c13183dc191366a2a801bf68b361a1e321bf1af481bf3381bf3581bf361a21bf7f41bf361bf1f1a61481bf28f1181bf4f581bf3604c5e11c019551a1918621634702462a17c6111ac6101ac184938584f155b1a1918621721a1918621631a1918621636451011a1918621621918621531b191119186215235186214327024361e2a816418b7f3818b36061e197c6101ac184938483d1184c18621521862143186214262510118621420318c715607c4e28131801e8613c021824361e2a8161697f386936061a27c4061c1a614828c1184c5e2a11a3b762152157621411a0702462a17c6111ac6101ac5a49382a1b151f762152762143762140605101762142621337016213230141022ed32122,[.c (.b A6),.c (.i .i64 (-1)),.c (.b A5)],[.eqB A6 (.t 53) (.t 57)],[.tmp 4,.tmp 5],[cal B0c,cal nY,cal D2F]⟩
def B6W:=T2.R
def B3V:AtH:=T2.lj 0 n [m] [x1,x2,x6,x7]
def D0c:AtH:=T2.lj 1 n [m] [x1,x2,x6,x7]
def A4h:AtH:=T2.lj 2 n [m] [x1,x2,x6,x8]
def B3W:AtH:=T2.lj 3 n [m,m2] [x1,x2,x6,x8,x9,x10]
def rR:=tT [⟨2,4,B3V⟩,⟨2,4,D0c⟩,⟨2,4,A4h⟩,⟨3,6,B3W⟩]
def C3v:=mR B6W T2 rR n [a0,a1] h
def A5t:=mL T2 rR 0 n [m] [x1,x2,x6,x7] h
def uZ:=mJ T2 rR 1 n [m] [x1,x2,x6,x7] h
def A5u:=mL T2 rR 2 n [m] [x1,x2,x6,x8] h
def A5v:=mL T2 rR 3 n [m,m2] [x1,x2,x6,x8,x9,x10] h
def B6B:=T2.K Tryz.func180
def A6T:=T2.S
theorem C37:SOk A8 180 A6T:=B6B.sok
theorem B7m:F6 B6W A6T:=B6B.flat
def dN:FD A8:=⟨px 0X1218491de1c4919f3922121e8415607c283b131801a21fa3a614828c11c4c61c1a614828c144c280280181824631a2a83c29a3603818c1418f4321523bc1815607c486e131849c71765a2a862e31eb7f361eb1f1a61481eb28f141eb4f281eb361eb1f1a61481eb28f141eb4f481eb3603c7811a0193518764321732702461a17c280486b136d1876432118218764321731876432172625101187643217276432163301764321623980138c5114a6803e69693885a162e221ac61c1a614828c144c2804495b391a019643215301724633e2a8618c2bf61118c1af618c1f1a614818c28f1418c4f2818c3601627c61c1a614828c144c283d11d59432152432143154321411a0702462a17c6101ac61c044c282e153a43215243214343214060514114321423223621fa01c4c61c044c43213201218491de7e4938221224632a2a82d653a7f63a1f043a4f601617c61c041a4d182932142321334c2491de1f32d901f193e93321321f2d862ec22122,[.c (.b A5),.c (.b A6)],[],[.cellN 2 33],[cal nY,cal B0e,cal C37]⟩
def B4E:=dN.R
def A20:AtH:=dN.lj 0 n [m] [x1,x2,x3,x4]
def D4T:AtH:=dN.lj 1 n [m] [x1,x2,x3,x4]
def A21:AtH:=dN.lj 2 n [m,m2] [x1,x2,x3,x4,x6,x7,x8]
def A7f:=tT [⟨2,4,A20⟩,⟨2,4,D4T⟩,⟨3,7,A21⟩]
def C9v:=mR B4E dN A7f n [a0] h
def B1m:=mL dN A7f 0 n [m] [x1,x2,x3,x4] h
def kZ:=mJ dN A7f 1 n [m] [x1,x2,x3,x4] h
def lA:=mL dN A7f 2 n [m,m2] [x1,x2,x3,x4,x6,x7,x8] h
def C49:=dN.K Tryz.func115
def B5b:=dN.S
theorem C9R:SOk A8 115 B5b:=C49.sok
theorem C39:F6 B4E B5b:=C49.flat
def X5:FD A8:=⟨px 0X128c211c49122125c415607c3a1a131802883163a13cc61011113fc61c1a614828c144c2801c0181824364a2a864b2bf62e224b1af64b1f1a61484b28f144b4f7e4b37e4b3601637c61c1a614828c144c4a1c11e394314215431311a0702462a17c6111ac6101ac44938605194314243133431306051014313231313b81312213b862ec2112,[.c (.b A6)],[],[.tmp 2],[cal B0c,cal nY,cal B7j]⟩
def A03:=X5.R
def yX:AtH:=X5.lj 0 n [m] [x1,x3,x4]
def C4y:AtH:=X5.lj 1 n [m] [x1,x3,x4]
def A1s:=tT [⟨2,3,yX⟩,⟨2,3,C4y⟩]
def B6V:=mR A03 X5 A1s n [a0] h
def A1F:=mL X5 A1s 0 n [m] [x1,x3,x4] h
def oY:=mJ X5 A1s 1 n [m] [x1,x3,x4] h
def A9b:=X5.K Tryz.func116
def A1h:=X5.S
theorem A2D:SOk A8 116 A1h:=A9b.sok
theorem B5a:oP A03 A1h:=A9b.out
end
theorem bG {d:Int} {t:List Int} {h:B5}:B0b [.a (encI (d::t))] h=A4 (iV (W1 d:Nat),h):=by
 have key:∀ g,∃ g',A9r 0 [.a (encI (d::t))] g=A4 (iV (W1 d:Nat),g'):=by
  intro g;have l0:(encI (d::t))[0]?=A4 (.i .i64 d):=rfl;rw [C5C];generalize encI (d::t)=y at *;by_cases c1:d<0
  ·have e:((W1 d:Nat):Int)=0:=by unfold W1;omega
   rw [e];exact ⟨_,by simp only [esc,esh,Nat.reduceAdd,Nat.reduceMul,Nat.reduceLT,l0,c1]<;>rfl⟩
  ·by_cases c2:5<d
   ·have e:((W1 d:Nat):Int)=5:=by unfold W1;omega
    rw [e];exact ⟨_,by simp only [esc,esh,Nat.reduceAdd,Nat.reduceMul,Nat.reduceLT,l0,c1,c2]<;>rfl⟩
   ·rw [B2s (by omega) (by omega)];exact ⟨_,by simp only [esc,esh,Nat.reduceAdd,Nat.reduceMul,Nat.reduceLT,l0,c1,c2]<;>rfl⟩
 obtain ⟨g',e⟩:=key (ro h);exact B94 e rfl
theorem D5u {k q:Nat} {h:B5} (hk:k<=32):∀ e i m:Nat,i+e=k->e<m->C2V q m (iV (k:Int)) (iV ((2 ^ i:Nat):Int)) (iV (i:Int)) h=A4 (iV ((2 ^ k:Nat):Int),h)
 | e,i,0,_,hm=>by omega
 | 0,i,m+1,hi,hm=>by
  have e0:i=k:=by omega
  subst e0;have c0:¬ (i:Int)<i:=by omega
  rw [B1p];simp only [esc,c0]
 | e+1,i,m+1,hi,hm=>by
  have ih:=D5u (q:=q) (h:=h) hk e (i+1) m (by omega) (by omega);have c0:(i:Int)<k:=by omega
  have hp:2 ^ i<=2 ^ 32:=Nat.pow_le_pow_right (by omega) (by omega);have w1:IntKind.wrap .i64 (((2 ^ i:Nat):Int)*2)=((2 ^ (i+1):Nat):Int):=by
   rw [Nat.pow_succ];generalize 2 ^ i=y at hp ⊢;rw [wrap_i64 (by omega) (by omega)];omega
  rw [B1p];generalize ((2 ^ (i+1):Nat):Int)=y1 at *;generalize ((2 ^ i:Nat):Int)=y at *;simp only [esc,c0,w1,D3 (show i+1<9223372036854775808 by omega)];exact ih
theorem A7N {k:Nat} {h:B5} (hk:k<=32):A6U [iV (k:Int)] h=A4 (iV ((2 ^ k:Nat):Int),h):=by
 have e:=D5u (q:=k+1) (h:=ro h) hk k 0 (k+1) (by omega) (by omega);exact C4b (n:=k+1) (h2:=ro h) (by rw [C9x];exact e) rfl
theorem bH {d:Int} {h:B5}:A6U [iV (W1 d:Nat)] h=A4 (iV (D1 d:Nat),h):=A7N (by have:=sC d;omega)
theorem D5B {i p b:Nat} {h:B5} (hb:b<=32):B96 [iV (i:Int),iV (p:Int),iV (b:Int)] h=A4 (bV (i%2 ^ b==p%2 ^ b),h):=by
 have key:∀ g,∃ g',B9p 0 [iV (i:Int),iV (p:Int),iV (b:Int)] g=A4 (bV (i%2 ^ b==p%2 ^ b),g'):=by
  intro g;have hP:=λh=>A7N (k:=b) (h:=h) hb
  have hp0:0<2 ^ b:=Nat.pow_pos (by omega);rw [D2s];generalize 2 ^ b=s at *;have e1:O4 .rem (iV (i:Int)) (iV (s:Int))=A4 (iV ((i%s:Nat):Int)):=by rw [A8R (by omega) (by omega)];simp
  have e2:O4 .rem (iV (p:Int)) (iV (s:Int))=A4 (iV ((p%s:Nat):Int)):=by rw [A8R (by omega) (by omega)];simp
  have e3:decide (((i%s:Nat):Int)=((p%s:Nat):Int))=(i%s==p%s):=by
   rw [Bool.eq_iff_iff,decide_eq_true_eq,beq_iff_eq];omega
  generalize i%s=x at *;generalize p%s=y at *;exact ⟨_,by simp only [esc,hP,e1,e2,e3]<;>rfl⟩
 obtain ⟨g',e⟩:=key (ro h);exact C6l e rfl
end Go.Proofs.YtbnkgnfhgbhblaaGreat
