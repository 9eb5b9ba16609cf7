/- Parts of the proof. -/
import Derived.Test.YtabmahknlebhpaaGreatVmEvTab
import Derived.Test.YtabmahknlebhpaaGreatVmNumOver
set_option linter.unusedVariables false
namespace Go.Proofs.YtabmahknlebhpaaGreat
section
section
open Go.RowKit
set_option maxRecDepth 100000
set_option maxHeartbeats 4000000
abbrev RT0:Type:=((Bool × Unit) × (Unit))
abbrev RT1:Type:=((Int × Unit) × (v8 × Unit))
abbrev RT2:Type:=((Int × Unit) × (Unit))
abbrev RT3:Type:=(((List Int) × Unit) × (Unit))
abbrev RT4:Type:=((l8 × Unit) × (Unit))
abbrev RT5:Type:=((o4 × Unit) × (Unit))
abbrev RT6:Type:=((l3 × Unit) × (Unit))
abbrev RT7:Type:=((x5 × Unit) × (Unit))
abbrev RT8:Type:=((H8 × Unit) × (Unit))
abbrev RT9:Type:=((Bool × Unit) × (u9 × Unit))
abbrev P2:Type:=((Int × Unit) × (u9 × Unit))
abbrev Ed:Type:=((Unit) × (u9 × Unit))
abbrev N4:Type:=(((List Int) × Unit) × (v8 × Unit))
abbrev F5:Type:=((Unit) × (v8 × Unit))
abbrev HG:Type:=((Int × Int × Unit) × (v8 × Unit))
abbrev A8:Type:=((Int × Int × Unit) × (Unit))
abbrev Ca:Type:=((x5 × Int × Unit) × (Unit))
abbrev J3:Type:=((o4 × l3 × Unit) × (Unit))
abbrev s8:Type:=(((List d7) × l3 × Unit) × (Unit))
abbrev Rv:Type:=(((List d7) × Unit) × (Unit))
abbrev H7:Type:=((o4 × Int × Int × Unit) × (Unit))
abbrev S8:Type:=(((b5Y) × Int × Bool × Unit) × (Unit))
abbrev A6:Type:=((Int × l8 × Unit) × (Unit))
abbrev Ev:Type:=(((b5Y) × Int × Unit) × (Unit))
abbrev S5:Type:=((Bool × l8 × Unit) × (Unit))
abbrev Bq:Type:=(((List Int) × Int × Int × Unit) × (Unit))
abbrev H4:Type:=((Int × Int × Int × Unit) × (Unit))
abbrev U9:Type:=(((List (b5Y)) × (List Int) × Unit) × (Unit))
abbrev W9:Type:=(((List r9) × Int × Unit) × (Unit))
abbrev N5:Type:=((Int × d9 × Unit) × (Unit))
abbrev p9:Type:=((d9 × Unit) × (Unit))
abbrev S6:Type:=(((List w7) × d9 × Unit) × (Unit))
abbrev Jq:Type:=(((List o4) × y6 × Unit) × (Unit))
abbrev Jm:Type:=(((List d7) × y6 × Unit) × (Unit))
abbrev I3:Type:=((s9 × y6 × Unit) × (Unit))
abbrev N9:Type:=((l6 × Unit) × (Unit))
abbrev Lm:Type:=(((List Int) × Int × Unit) × (Unit))
abbrev BM:Type:=((s9 × Bool × Unit) × (Unit))
abbrev Jc:Type:=(((List r9) × Unit) × (Unit))
abbrev b5I:=Option p9
abbrev b5J:=Option s8
abbrev b5K:=Option A6
abbrev b5L:=Option A8
abbrev b5M:=Option F5
abbrev b5N:=Option H4
abbrev b5O:=Option H7
abbrev b5P:=Option I3
abbrev b5Q:=Option N9
abbrev b5R:=Option P2
abbrev b5S:=Option S5
abbrev b5T:=Option S6
abbrev b5U:=Option S8
abbrev b5V:=Option W9
abbrev b5W:=Option Bq
abbrev b5X:=Option Ca
inductive Q_C where
 |c0(a:(b5Y))(b:Int)
 |c1(a:(b5Y))(b:Int)(c:Bool)
 |c2(a:(b5Y))(b:Int)(c:Bool)(d:UInt8)
 |c3(a:(b5Y))(b:Int)(c:Bool)(d:UInt8)
 |c4(a:Int)
 |c5(a:(b5Y))(b:Int)
 |c6(a:(b5Y))(b:Int)(c:Int)(d:Int)(e:Int)
 |c7(a:Int)(b:Int)
 |c8(a:Int)
 |c9(a:Int)
 |c10(a:Int)
 |c11
 |c12(a:(b5Y))(b:Int)
 |c13(a:(b5Y))(b:Int)
 |c14(a:Int)
 |c15(a:(b5Y))
 |c16(a:(b5Y))(b:Int)
 |c17
 |c18(a:H8)
 |c19(a:Int)
 |c20(a:H8)
 |c21(a:(b5Y))
 |c22(a:(b5Y))(b:(b5Y))(c:Int)
 |c23(a:(b5Y))(b:(b5Y))
 |c24(a:(b5Y))(b:(b5Y))
 |c25(a:(b5Y))(b:(b5Y))
 |c26(a:(b5Y))(b:(b5Y))(c:Int)(d:Int)
 |c27(a:(b5Y))(b:(b5Y))
 |c28(a:(b5Y))(b:(b5Y))(c:(b5Y))
 |c29(a:(b5Y))(b:(b5Y))(c:Int)
 |c30(a:(b5Y))(b:Int)
 |c31(a:(b5Y))(b:Int)(c:Int)
 |c32(a:(b5Y))(b:Int)(c:Int)
 |c33(a:(b5Y))(b:Int)(c:Int)(d:RT2)(e:Int)(f:Int)
 |c34(a:(b5Y))(b:Int)(c:Int)(d:RT2)(e:Int)(f:Int)
 |c35(a:(b5Y))(b:Int)(c:Int)(d:RT2)
 |c36(a:(b5Y))(b:Int)(c:Int)(d:RT2)(e:Int)(f:Int)
 |c37(a:Int)
 |c38(a:Int)
 |c39(a:Int)
 |c40
 |c41(a:(b5Y))
 |c42(a:(b5Y))(b:Int)(c:(List Int))
 |c43(a:(b5Y))(b:Int)(c:(List Int))
 |c44(a:(b5Y))(b:Int)(c:Int)(d:(List Int))
 |c45(a:(b5Y))
 |c46(a:(b5Y))(b:Int)(c:(List Int))
 |c47(a:(b5Y))(b:Int)(c:(List Int))
 |c48(a:(b5Y))(b:Int)
 |c49(a:(b5Y))(b:Int)
 |c50(a:(b5Y))(b:Int)(c:Int)
 |c51(a:(b5Y))(b:Int)
 |c52(a:(b5Y))(b:Int)(c:Int)
 |c53
 |c54(a:(b5Y))
 |c55(a:(b5Y))(b:Int)(c:Int)(d:Int)(e:Int)(f:(List o4))
 |c56(a:(b5Y))(b:Int)(c:Int)(d:Int)(e:(List o4))
 |c57(a:l3)
 |c58(a:l3)
 |c59(a:l3)(b:(b5Y))
 |c60(a:Int)(b:o4)(c:(b5Y))(d:Int)(e:(List d7))
 |c61(a:l3)(b:Int)
 |c62(a:l3)(b:(b5Y))
 |c63(a:l3)(b:Int)
 |c64(a:l3)(b:RT5)
 |c65(a:l3)(b:(b5Y))
 |c66(a:(b5Y))(b:l3)
 |c67(a:l3)(b:(b5Y))
 |c68(a:l3)
 |c69(a:Int)(b:l3)(c:RT5)
 |c70(a:l3)(b:RT5)
 |c71(a:l3)(b:Int)
 |c72(a:l3)
 |c73(a:l3)(b:RT5)(c:J3)(d:(List d7))
 |c74(a:l3)(b:RT5)(c:J3)(d:(List d7))
 |c75(a:(List d7))(b:(List d7))
 |c76(a:l3)
 |c77(a:Int)(b:l3)(c:(List d7))
 |c78(a:Int)(b:l3)(c:(List d7))
 |c79(a:l3)(b:(List d7))
 |c80(a:l3)
 |c81(a:l3)(b:RT5)
 |c82(a:l3)(b:RT5)
 |c83(a:l3)
 |c84(a:l3)
 |c85(a:(List d7))(b:l3)
 |c86(a:(List d7))(b:l3)
 |c87(a:(List d7))(b:l3)
 |c88(a:l3)
 |c89(a:l3)(b:RT5)
 |c90(a:Int)
 |c91(a:l3)(b:Int)
 |c92(a:Int)(b:(List d7))(c:Bool)(d:l3)(e:U9)
 |c93(a:Int)(b:(List d7))(c:Bool)(d:U9)(e:Int)(f:l3)
 |c94(a:Int)(b:(List d7))(c:Bool)(d:l3)(e:U9)
 |c95(a:(List d7))(b:l3)
 |c96(a:l3)
 |c97(a:RT5)(b:l3)(c:(List d7))
 |c98(a:(List d7))(b:RT5)(c:l3)
 |c99(a:s8)(b:RT5)
 |c100(a:s8)(b:RT5)
 |c101(a:s8)(b:l3)(c:RT5)
 |c102(a:s8)(b:d7)(c:RT5)
 |c103(a:l3)
 |c104(a:l3)(b:RT5)(c:(List d7))
 |c105(a:l3)(b:RT5)(c:(List d7))
 |c106(a:l3)
 |c107(a:Int)(b:l3)(c:RT5)(d:J3)(e:(List d7))
 |c108(a:Int)(b:l3)(c:RT5)(d:J3)(e:(List d7))
 |c109(a:Int)(b:l3)(c:RT5)(d:J3)(e:(List d7))
 |c110(a:Int)(b:l3)(c:RT5)(d:J3)(e:(List d7))(f:(List d7))
 |c111(a:l3)
 |c112(a:l3)(b:(List d7))
 |c113(a:l3)(b:(List d7))(c:(List d7))
 |c114(a:l3)(b:(List d7))
 |c115(a:(List d7))(b:l3)
 |c116(a:(List d7))(b:l3)
 |c117(a:(b5Y))
 |c118(a:(List d7))(b:Int)
 |c119(a:(List d7))(b:Int)(c:d7)(d:Int)
 |c120(a:Int)(b:d7)(c:Int)
 |c121(a:(List d7))
 |c122(a:(b5Y))(b:Int)
 |c123(a:(b5Y))(b:Int)
 |c124(a:(b5Y))
 |c125(a:(b5Y))
 |c126(a:d7)
 |c127(a:d7)
 |c128(a:d7)
 |c129(a:(List d7))(b:Int)
 |c130(a:(List d7))(b:Int)(c:Int)(d:(List Int))
 |c131(a:(List Int))
 |c132(a:d7)
 |c133(a:d7)
 |c134(a:d7)
 |c135(a:d7)
 |c136
 |c137(a:(b5Y))(b:Int)
 |c138(a:(b5Y))(b:Int)(c:Int)
 |c139
 |c140(a:(List d7))(b:Int)
 |c141(a:(List d7))(b:Int)(c:RT3)(d:Int)(e:(List Int))
 |c142(a:(List d7))(b:Int)(c:RT3)(d:(List Int))
 |c143(a:(List d7))(b:Int)(c:(List Int))(d:d7)
 |c144(a:(List d7))
 |c145(a:(List d7))(b:Int)
 |c146
 |c147(a:d9)
 |c148(a:d9)(b:(b5Y))
 |c149(a:(b5Y))(b:d9)(c:Int)
 |c150
 |c151(a:(List d7))(b:Int)
 |c152(a:(List d7))(b:Int)(c:RT3)(d:Int)(e:(List Int))
 |c153(a:(List Int))
 |c154(a:(List d7))(b:(List Int))(c:(b5Y))
 |c155(a:(List d7))(b:(List Int))(c:(b5Y))(d:Int)
 |c156
 |c157(a:Int)
 |c158(a:Int)(b:Int)(c:(List r9))
 |c159(a:(List r9))
 |c160(a:d9)(b:Int)(c:l4)
 |c161(a:(List r9))(b:Int)
 |c162(a:(List r9))(b:Int)(c:Int)(d:(List r9))
 |c163(a:(List r9))(b:Int)(c:(List r9))
 |c164(a:(List d7))
 |c165(a:(List r9))(b:(List (b5Y)))(c:d7)
 |c166(a:(List r9))(b:(List (b5Y)))(c:Int)(d:d7)
 |c167
 |c168(a:(List r9))(b:(List (b5Y)))(c:(List d7))
 |c169(a:(List d7))(b:Int)(c:Int)(d:(List r9))
 |c170(a:Int)(b:(List r9))
 |c171(a:d9)(b:Int)(c:l4)
 |c172(a:d9)(b:Int)(c:Int)
 |c173(a:d9)(b:Int)
 |c174(a:d9)(b:Int)(c:Int)
 |c175(a:d9)
 |c176(a:d9)(b:RT3)(c:Int)(d:d9)
 |c177(a:d9)(b:RT3)(c:Int)(d:d9)
 |c178(a:d9)(b:RT3)(c:Int)(d:d9)
 |c179(a:d9)(b:RT3)(c:d9)
 |c180(a:d9)(b:RT3)(c:Int)(d:p9)(e:(List (b5Y)))
 |c181(a:d9)(b:RT3)(c:Int)(d:d9)
 |c182(a:d9)(b:RT3)(c:Int)(d:RT3)(e:Int)(f:Int)(h:Int)(j:d9)
 |c183(a:d9)
 |c184(a:d9)(b:RT3)(c:Int)(d:RT3)(e:Int)(f:Int)(h:Int)(j:d9)
 |c185(a:d9)(b:RT3)(c:Int)(d:RT3)(e:Int)(f:Int)(h:Int)(j:d9)
 |c186(a:d9)(b:RT3)(c:Int)(d:RT3)(e:Int)(f:Int)(h:d9)
 |c187(a:d9)(b:RT3)(c:Int)(d:RT3)(e:Int)(f:Int)(h:Int)(j:p9)(k:(List Q1))
 |c188(a:d9)(b:RT3)(c:Int)(d:d9)(e:(List N1))
 |c189(a:(b5Y))
 |c190(a:(b5Y))(b:Int)
 |c191
 |c192(a:d9)(b:Int)(c:l4)
 |c193(a:d9)(b:Int)(c:Int)
 |c194(a:d9)(b:Int)
 |c195(a:d9)
 |c196(a:d9)(b:RT3)(c:Int)(d:d9)
 |c197(a:d9)(b:RT3)(c:Int)(d:Int)(e:RT3)(f:Int)(h:Int)(j:d9)
 |c198(a:d9)(b:RT3)(c:Int)(d:Int)(e:Int)(f:d9)
 |c199(a:d9)
 |c200(a:d9)(b:RT3)(c:Int)(d:Int)(e:RT3)(f:Int)(h:Int)(j:d9)
 |c201(a:d9)(b:RT3)(c:Int)(d:Int)(e:RT3)(f:Int)(h:Int)(j:d9)
 |c202(a:d9)(b:RT3)(c:Int)(d:Int)(e:RT3)(f:Int)(h:d9)
 |c203(a:d9)(b:RT3)(c:Int)(d:Int)(e:Int)(f:d9)
 |c204(a:d9)(b:RT3)(c:Int)(d:Int)(e:RT3)(f:Int)(h:Int)(j:p9)
 |c205(a:d9)(b:RT3)(c:Int)(d:p9)(e:(List t9))
 |c206(a:d9)(b:RT3)(c:Int)(d:Int)(e:d9)
 |c207(a:d9)(b:Int)(c:(List w7))(d:(b5Y))(e:Int)(f:Int)(h:Int)
 |c208(a:d9)(b:Int)(c:Int)
 |c209(a:d9)(b:Int)(c:l4)
 |c210(a:d9)(b:Int)
 |c211(a:d9)(b:Int)(c:(List w7))(d:Int)
 |c212(a:Int)(b:(List w7))(c:Int)(d:Int)(e:d9)
 |c213(a:Int)(b:(List w7))(c:Int)(d:Int)(e:Int)(f:Int)(h:d9)(j:d7)
 |c214(a:Int)(b:(List w7))(c:Int)(d:Int)(e:Int)(f:d9)
 |c215(a:d9)
 |c216(a:Int)(b:(List w7))(c:Int)(d:Int)(e:Int)(f:d9)
 |c217(a:Int)(b:(List w7))(c:Int)(d:Int)(e:d9)
 |c218(a:d9)(b:Int)(c:(List w7))(d:Int)(e:Int)
 |c219(a:Int)(b:(List w7))(c:RT3)(d:Int)(e:d9)
 |c220(a:Int)(b:(List w7))(c:Int)(d:Int)(e:d9)(f:N5)(h:Int)(j:d9)(k:d7)
 |c221(a:Int)(b:(List w7))(c:Int)(d:Int)(e:d9)(f:N5)(h:d9)(j:d7)
 |c222(a:(List w7))(b:d9)
 |c223(a:Int)(b:(List w7))(c:Int)(d:Int)(e:d9)(f:N5)(h:d9)(j:d7)
 |c224(a:Int)(b:(List w7))(c:Int)(d:Int)(e:d9)(f:N5)(h:d9)(j:d7)
 |c225(a:d9)(b:Int)(c:(List w7))(d:Int)
 |c226(a:Int)(b:(List w7))(c:Int)(d:RT3)(e:Int)(f:d9)
 |c227(a:(List w7))(b:Int)(c:d9)
 |c228(a:(List w7))(b:Int)(c:Int)(d:d9)(e:(List I8))
 |c229(a:d9)(b:(List I8))
 |c230(a:d9)(b:Int)
 |c231(a:Int)(b:RT3)(c:Int)(d:d9)(e:(List w7))
 |c232(a:Int)(b:RT3)(c:d9)(d:(List w7))
 |c233(a:(List d7))
 |c234(a:Int)(b:Int)(c:d9)
 |c235(a:d9)
 |c236(a:RT2)(b:d9)
 |c237(a:d9)
 |c238(a:d9)
 |c239(a:l8)(b:Int)(c:Int)
 |c240(a:l8)(b:Bool)(c:Int)
 |c241(a:(List r9))(b:Int)(c:Int)
 |c242(a:l8)(b:Int)(c:Int)
 |c243(a:Int)
 |c244(a:l8)(b:Int)
 |c245(a:l8)(b:Int)(c:Int)
 |c246(a:l8)(b:Int)
 |c247(a:Int)(b:RT3)(c:Int)(d:l8)(e:(List Int))
 |c248(a:Int)(b:l8)(c:RT3)(d:(List Int))
 |c249(a:Ev)(b:RT3)(c:Int)(d:l8)(e:(List Int))
 |c250(a:RT3)(b:Int)(c:l8)(d:t9)(e:(List Int))
 |c251(a:Ev)(b:l8)
 |c252(a:l8)(b:t9)
 |c253(a:l8)(b:Int)(c:Int)
 |c254(a:Int)(b:A6)
 |c255(a:Int)(b:Int)(c:A6)(d:N1)
 |c256(a:Int)(b:A6)
 |c257(a:l8)(b:Int)(c:Int)(d:Int)
 |c258(a:Int)(b:Int)
 |c259(a:Int)(b:Int)(c:RT2)(d:RT2)(e:l8)
 |c260(a:Int)
 |c261(a:Int)(b:Int)
 |c262
 |c263(a:l8)(b:Int)(c:Int)
 |c264(a:l8)(b:Int)
 |c265(a:Int)(b:Int)(c:l8)
 |c266(a:Int)(b:Int)(c:A6)(d:RT3)
 |c267(a:Int)(b:Int)(c:A6)(d:A6)(e:RT3)
 |c268(a:Int)(b:l4)(c:l8)(d:d7)(e:RT3)
 |c269(a:l8)(b:Int)
 |c270(a:A6)(b:A6)(c:l8)(d:RT3)
 |c271(a:Bool)(b:Int)(c:l8)(d:RT3)
 |c272(a:l8)(b:RT3)
 |c273(a:Bool)(b:l8)
 |c274(a:l8)(b:Int)
 |c275(a:Bool)(b:RT3)(c:Int)(d:l8)
 |c276(a:Bool)(b:l8)
 |c277(a:(List d7))
 |c278(a:(List d7))(b:I3)(c:Int)(d:l8)
 |c279(a:I3)(b:l8)
 |c280(a:(b5Y))
 |c281(a:l6)
 |c282(a:Int)(b:l6)(c:Int)
 |c283(a:Int)(b:l6)
 |c284(a:l6)(b:Int)
 |c285(a:l6)
 |c286(a:Int)(b:l6)(c:Int)
 |c287
 |c288(a:l6)(b:o0)(c:i9)
 |c289(a:Int)(b:Bool)
 |c290(a:o0)(b:i9)
 |c291(a:o0)(b:i9)
 |c292(a:(List Int))
 |c293(a:(List Int))(b:Int)(c:Int)
 |c294(a:u9)(b:Int)
 |c295(a:Int)(b:u9)(c:(List Int))
 |c296(a:u9)(b:Int)
 |c297(a:u9)(b:Int)
 |c298(a:u9)(b:Int)(c:Int)
 |c299(a:u9)(b:Int)(c:Int)
 |c300(a:Int)(b:Int)(c:Int)(d:u9)(e:(List Int))
 |c301(a:Int)(b:Int)(c:u9)(d:(List Int))
 |c302(a:Int)(b:Int)(c:Int)(d:Int)(e:u9)(f:(List Int))
 |c303(a:u9)
 |c304(a:u9)
 |c305(a:l6)(b:i9)
 |c306(a:u9)(b:i9)(c:Int)
 |c307(a:u9)(b:l6)(c:Int)
 |c308(a:Int)(b:Int)(c:A8)(d:i9)(e:u9)
 |c309(a:Int)(b:Int)(c:A8)(d:i9)(e:u9)
 |c310(a:Int)(b:Int)(c:A8)(d:Int)(e:i9)(f:u9)
 |c311(a:l6)(b:o0)
 |c312(a:o0)(b:Int)(c:l6)(d:(List Int))
 |c313(a:l6)(b:o0)(c:(List Int))
 |c314(a:l6)(b:u9)
 |c315(a:u9)
 |c316(a:l6)
 |c317(a:l6)(b:Int)
 |c318(a:Int)(b:l6)(c:Int)(d:o0)(e:Int)
 |c319(a:l6)
 |c320(a:l6)(b:Int)
 |c321(a:l6)(b:Int)
 |c322
 |c323(a:l6)(b:Int)
 |c324(a:v8)(b:Int)
 |c325(a:Int)(b:v8)(c:Int)(d:(List Int))
 |c326(a:v8)(b:(List Int))
 |c327(a:v8)(b:Int)(c:Int)(d:Int)
 |c328(a:v8)
 |c329(a:v8)(b:Int)
 |c330(a:v8)(b:(b5Y))
 |c331(a:(b5Y))(b:Int)(c:Bool)(d:v8)
 |c332(a:v8)(b:d7)(c:l4)
 |c333(a:v8)(b:Int)
 |c334(a:Int)(b:(List Int))(c:Int)(d:Int)(e:d7)(f:l4)(h:v8)
 |c335(a:Int)(b:Int)(c:F5)(d:N4)
 |c336(a:Int)(b:d7)(c:N4)
 |c337(a:Int)(b:(List Int))(c:d7)(d:l4)(e:N4)
 |c338(a:Int)(b:d7)(c:l4)(d:v8)
 |c339(a:v8)(b:Int)(c:(List Int))
 |c340(a:Int)(b:(List Int))(c:N4)(d:Int)(e:v8)
 |c341(a:Int)(b:(List Int))(c:v8)
 |c342(a:v8)(b:Int)
 |c343(a:Int)(b:v8)
 |c344(a:v8)(b:Int)
 |c345(a:N4)(b:Int)(c:v8)
 |c346(a:s9)
 |c347(a:s9)(b:Int)(c:v8)
 |c348(a:s9)(b:Int)(c:RT1)(d:RT2)(e:t9)(f:Int)
 |c349(a:v8)
 |c350(a:s9)(b:Int)(c:RT1)(d:(List o0))
 |l17_awake
 |l17_source(a:(b5Y))
 |l17_VerifyPrograms(a:(b5Y))
 |c354(a:Int)(b:N9)
 |c355(a:Int)(b:Int)(c:N9)(d:Lm)
 |c356
 |c357(a:Int)(b:N9)
 |c358(a:x5)
 |c359(a:x5)(b:Int)
 |c360
 |c361(a:x5)(b:Int)(c:Int)
 |c362(a:Int)(b:Int)(c:x5)
 |c363(a:l6)(b:i9)
 |c364(a:i9)
 |c365(a:i9)
 |c366(a:x5)(b:l6)(c:Int)
 |c367(a:x5)(b:(List Bool))
 |c368(a:Int)(b:Int)(c:A8)(d:x5)(e:i9)(f:(List Bool))
 |c369(a:Int)(b:Int)(c:A8)(d:x5)(e:i9)(f:(List Bool))
 |c370(a:Int)(b:Int)(c:A8)(d:x5)(e:i9)(f:(List Bool))
 |c371(a:Int)(b:Int)(c:A8)(d:x5)(e:i9)
 |c372(a:l6)(b:o0)
 |c373(a:o0)(b:Int)(c:l6)(d:(List Int))
 |c374(a:l6)(b:o0)(c:(List Int))
 |c375(a:Int)(b:l6)(c:x5)
 |c376(a:Int)(b:x5)
 |c377(a:l6)
 |c378(a:Int)(b:l6)(c:Int)
 |c379(a:Int)(b:l6)
 |c380(a:Int)(b:Int)(c:l6)(d:Int)
 |c381(a:Int)(b:Int)(c:l6)
 |c382(a:Int)(b:Int)(c:l6)(d:Int)
 |c383(a:Int)(b:Int)(c:l6)
 |c384(a:Int)(b:Int)(c:Int)
 |c385(a:l6)(b:o0)(c:i9)
 |c386(a:i9)
 |c387(a:o0)(b:i9)
 |c388(a:o0)(b:i9)
 |c389
 |c390(a:l6)
 |c391(a:l6)(b:Int)
 |c392(a:Int)(b:Int)(c:l6)(d:Int)(e:o0)
 |c393(a:l6)
 |c394(a:l6)(b:Int)
 |c395(a:l6)(b:Int)
 |c396
def Q_T:Q_C→Type
 |.c0 .. |.c1 .. |.c2 .. |.c3 .. |.c4 .. |.c8 .. |.c9 .. |.c10 .. |.c11 .. |.c12 .. |.c13 .. |.c14 .. |.c20 .. |.c37 .. |.c38 .. |.c39 .. |.c40 .. |.c118 .. |.c119 .. |.c120 .. |.c132 .. |.c133 .. |.c134 .. |.c135 .. |.c136 .. |.c148 .. |.c149 .. |.c150 .. |.c165 .. |.c166 .. |.c167 .. |.c189 .. |.c190 .. |.c191 .. |.c244 .. |.c257 .. |.c258 .. |.c259 .. |.c260 .. |.c261 .. |.c262 .. |.c288 .. |.c289 .. |.c290 .. |.c291 .. |.c292 .. |.c328 .. |.c358 .. |.c359 .. |.c360 .. |.c385 .. |.c386 .. |.c387 .. |.c388 .. |.c389 .. =>RT2
 |.c5 .. |.c6 .. |.c7 .. |.c21 .. |.c22 .. |.c23 .. |.c24 .. |.c25 .. |.c26 .. |.c27 .. |.c28 .. |.c29 .. |.c305 .. |.c363 .. |.c364 .. |.c365 .. =>A8
 |.c15 .. |.c16 .. |.c17 .. |.c57 .. |.c59 .. |.c121 .. |.c122 .. |.c123 .. |.c124 .. |.c125 .. |.c126 .. |.c127 .. |.c128 .. |.c137 .. |.c138 .. |.c139 .. |.c140 .. |.c141 .. |.c142 .. |.c143 .. |.c144 .. |.c145 .. |.c146 .. |.c147 .. |.c154 .. |.c155 .. |.c156 .. |.c164 .. |.c241 .. |.c242 .. |.c245 .. |.c281 .. |.c282 .. |.c283 .. |.c284 .. |.c285 .. |.c286 .. |.c287 .. |.c293 .. |.c306 .. |.l17_awake .. |.l17_VerifyPrograms .. |.c354 .. |.c355 .. |.c356 .. |.c357 .. |.c377 .. |.c378 .. |.c379 .. |.c380 .. |.c381 .. |.c382 .. |.c383 .. |.c384 .. =>RT0
 |.c18 .. |.c19 .. =>RT8
 |.c30 .. |.c31 .. |.c32 .. |.c33 .. |.c34 .. |.c35 .. |.c36 .. |.c48 .. |.c49 .. |.c50 .. |.c51 .. |.c52 .. |.c53 .. =>H7
 |.c41 .. |.c42 .. |.c43 .. |.c44 .. |.c45 .. |.c46 .. |.c47 .. =>S8
 |.c54 .. |.c55 .. |.c56 .. =>Jq
 |.c58 .. =>RT5
 |.c60 .. |.c75 .. =>Rv
 |.c61 .. |.c62 .. |.c65 .. |.c66 .. |.c67 .. =>RT6
 |.c63 .. |.c64 .. =>J3
 |.c68 .. |.c69 .. |.c70 .. |.c71 .. |.c72 .. |.c73 .. |.c74 .. |.c76 .. |.c77 .. |.c78 .. |.c79 .. |.c80 .. |.c81 .. |.c82 .. |.c83 .. |.c84 .. |.c85 .. |.c86 .. |.c87 .. |.c88 .. |.c89 .. |.c91 .. |.c92 .. |.c93 .. |.c94 .. |.c95 .. |.c96 .. |.c97 .. |.c98 .. |.c99 .. |.c100 .. |.c101 .. |.c102 .. |.c103 .. |.c104 .. |.c105 .. |.c106 .. |.c107 .. |.c108 .. |.c109 .. |.c110 .. |.c111 .. |.c112 .. |.c113 .. |.c114 .. =>s8
 |.c90 .. =>U9
 |.c115 .. |.c116 .. |.c117 .. =>Jm
 |.c129 .. |.c130 .. |.c131 .. |.c151 .. |.c152 .. |.c153 .. =>RT3
 |.c157 .. |.c158 .. |.c159 .. =>Jc
 |.c160 .. |.c171 .. |.c172 .. |.c174 .. |.c175 .. |.c176 .. |.c177 .. |.c178 .. |.c179 .. |.c180 .. |.c181 .. |.c182 .. |.c183 .. |.c184 .. |.c185 .. |.c186 .. |.c187 .. |.c188 .. |.c192 .. |.c193 .. |.c195 .. |.c196 .. |.c197 .. |.c198 .. |.c199 .. |.c200 .. |.c201 .. |.c202 .. |.c203 .. |.c204 .. |.c205 .. |.c206 .. |.c208 .. |.c209 .. |.c211 .. |.c212 .. |.c213 .. |.c214 .. |.c215 .. |.c216 .. |.c217 .. |.c225 .. |.c226 .. |.c227 .. |.c228 .. |.c229 .. |.c230 .. |.c231 .. |.c232 .. =>p9
 |.c161 .. |.c162 .. |.c163 .. |.c168 .. |.c169 .. |.c170 .. =>W9
 |.c173 .. |.c194 .. |.c210 .. =>N5
 |.c207 .. |.c218 .. |.c219 .. |.c220 .. |.c221 .. |.c222 .. |.c223 .. |.c224 .. =>S6
 |.c233 .. |.c234 .. |.c235 .. |.c236 .. |.c237 .. |.c238 .. |.c277 .. |.c278 .. |.c279 .. |.c280 .. =>I3
 |.c239 .. |.c240 .. |.c263 .. =>RT4
 |.c243 .. =>Ev
 |.c246 .. |.c247 .. |.c248 .. |.c249 .. |.c250 .. |.c251 .. |.c252 .. |.c253 .. |.c254 .. |.c255 .. |.c256 .. |.c264 .. |.c265 .. |.c266 .. |.c267 .. |.c268 .. =>A6
 |.c269 .. |.c270 .. |.c271 .. |.c272 .. |.c273 .. |.c274 .. |.c275 .. |.c276 .. =>S5
 |.c294 .. |.c295 .. |.c296 .. |.c297 .. =>Ed
 |.c298 .. |.c303 .. |.c304 .. |.c307 .. |.c308 .. |.c309 .. |.c310 .. =>P2
 |.c299 .. |.c300 .. |.c301 .. |.c302 .. =>RT9
 |.c311 .. |.c312 .. |.c313 .. |.c314 .. |.c315 .. =>Bq
 |.c316 .. |.c317 .. |.c318 .. |.c319 .. |.c320 .. |.c321 .. |.c322 .. |.c390 .. |.c391 .. |.c392 .. |.c393 .. |.c394 .. |.c395 .. |.c396 .. =>H4
 |.c323 .. =>Lm
 |.c324 .. |.c325 .. |.c326 .. =>N4
 |.c327 .. |.c330 .. |.c331 .. =>RT1
 |.c329 .. |.c333 .. |.c334 .. |.c335 .. |.c336 .. |.c337 .. |.c338 .. |.c339 .. |.c340 .. |.c341 .. |.c342 .. |.c343 .. |.c344 .. |.c345 .. =>F5
 |.c332 .. =>HG
 |.c346 .. |.c347 .. |.c348 .. |.c349 .. |.c350 .. =>N9
 |.l17_source .. =>BM
 |.c361 .. |.c362 .. |.c366 .. |.c367 .. |.c368 .. |.c369 .. |.c370 .. |.c371 .. =>RT7
 |.c372 .. |.c373 .. |.c374 .. |.c375 .. |.c376 .. =>Ca
noncomputable def a1q:Nc tab Q0 Tryz.prog:=DR 18 (α:=((H8 × Unit) × Unit)) (β:=RT8) (fun x=>(Xp x.1.1).bind fun r=>some ((r,()),())) (ok:=fun x r h=>by
 obtain⟨d,hd,h⟩:=zH h;cases h;exact Eq.mp (by kernel_rfl) (CL (a5s hd) (by kernel_rfl)))
noncomputable def a9C:Nc tab Q0 Tryz.prog:=DR 19 (α:=((Int × Unit) × Unit)) (β:=RT8) (fun x=>(nK x.1.1).bind fun r=>some ((r,()),())) (ok:=fun x r h=>by
 obtain⟨d,hd,h⟩:=zH h;cases h;exact Eq.mp (by kernel_rfl) (CL (b5u hd) (by kernel_rfl)))
noncomputable def b1P:Nc tab Q0 Tryz.prog:=DR 20 (α:=((H8 × Unit) × Unit)) (β:=RT2) (fun x=>(Vi x.1.1).bind fun r=>some ((r,()),())) (ok:=fun x r h=>by
 obtain⟨d,hd,h⟩:=zH h;cases h;exact Eq.mp (by kernel_rfl) (CL (b0C hd) (by kernel_rfl)))
noncomputable def JF:(i:Ix tab Q0)→Option (Bx tab Q0 i):=pO (P:=Tryz.prog) [a1q,a9C,b1P]
theorem b35(l:Nat)(x:Vars tab (Q0.lb l).sh)(r:Res tab (Q0.rh (Q0.lb l).v))(_:Q0.hd l=true)(h:JF ⟨l,x⟩=some r):Hh Tryz.prog Q0 l x r:=LH _ l x r h
def BQ:List FuncId:=[149]
noncomputable def Q_B:=EVB (B:=tab) Tryz.prog Q0 JF (Ec Tryz.prog Q0 QY BQ (Ki SO) (Ki SR) (Ki a0i)) 1000
theorem Q_q(i:Ix tab Q0):I6 Q_B i=Q_B (I6 Q_B) i:=a5D (fun i=>a3h _ _ _ _ _ _ _ _ i) i
noncomputable def WR:Q_C→Ix tab Q0
 |.c0 a b=>mkI 0 ((a,b,()),())
 |.c1 a b c=>mkI 1 ((a,b,c,()),())
 |.c2 a b c d=>mkI 2 ((a,b,c,(d.toNat:Int),()),())
 |.c3 a b c d=>mkI 3 ((a,b,c,(d.toNat:Int),()),())
 |.c4 a=>mkI 4 ((a,()),())
 |.c5 a b=>mkI 5 ((a,b,()),())
 |.c6 a b c d e=>mkI 6 ((a,b,c,d,e,()),())
 |.c7 a b=>mkI 7 ((a,b,()),())
 |.c8 a=>mkI 8 ((a,()),())
 |.c9 a=>mkI 9 ((a,()),())
 |.c10 a=>mkI 10 ((a,()),())
 |.c11=>mkI 11 ((),())
 |.c12 a b=>mkI 12 ((a,b,()),())
 |.c13 a b=>mkI 13 ((a,b,()),())
 |.c14 a=>mkI 14 ((a,()),())
 |.c15 a=>mkI 15 ((a,()),())
 |.c16 a b=>mkI 16 ((a,([([114,101,99]:b5Y),([102,110]:b5Y),([118,97,114]:b5Y),([105,102]:b5Y),([101,108,115,101]:b5Y),([119,104,105,108,101]:b5Y),([114,101,116,117,114,110]:b5Y),([112,114,105,110,116]:b5Y),([116,114,117,101]:b5Y),([102,97,108,115,101]:b5Y),([110,105,108]:b5Y),([109,97,107,101]:b5Y),([105,110,116]:b5Y),([98,111,111,108]:b5Y),([115,116,114]:b5Y),([99,111,109,112]:b5Y)]:List (b5Y)),(([([114,101,99]:b5Y),([102,110]:b5Y),([118,97,114]:b5Y),([105,102]:b5Y),([101,108,115,101]:b5Y),([119,104,105,108,101]:b5Y),([114,101,116,117,114,110]:b5Y),([112,114,105,110,116]:b5Y),([116,114,117,101]:b5Y),([102,97,108,115,101]:b5Y),([110,105,108]:b5Y),([109,97,107,101]:b5Y),([105,110,116]:b5Y),([98,111,111,108]:b5Y),([115,116,114]:b5Y),([99,111,109,112]:b5Y)]:List (b5Y)).length:Int),b,()),())
 |.c17=>mkI 17 ((),())
 |.c18 a=>mkI 18 ((a,()),())
 |.c19 a=>mkI 19 ((a,()),())
 |.c20 a=>mkI 20 ((a,()),())
 |.c21 a=>mkI 21 ((a,()),())
 |.c22 a b c=>mkI 22 ((a,b,c,()),())
 |.c23 a b=>mkI 23 ((a,b,()),())
 |.c24 a b=>mkI 24 ((a,b,()),())
 |.c25 a b=>mkI 25 ((a,b,()),())
 |.c26 a b c d=>mkI 26 ((a,b,c,d,()),())
 |.c27 a b=>mkI 27 ((a,b,()),())
 |.c28 a b c=>mkI 28 ((a,b,c,()),())
 |.c29 a b c=>mkI 29 ((a,b,c,()),())
 |.c30 a b=>mkI 30 ((a,b,()),())
 |.c31 a b c=>mkI 31 ((a,b,(),c,()),((o4.mk 0 0 0 0 ([]:b5Y)),()))
 |.c32 a b c=>mkI 32 ((a,b,(),c,()),((o4.mk 0 0 0 0 ([]:b5Y)),()))
 |.c33 a b c d e f=>mkI 33 ((a,b,(),c,d.1.1,(),e,()),((o4.mk 0 0 0 0 ([]:b5Y)),(o4.mk f 0 0 0 ([]:b5Y)),()))
 |.c34 a b c d e f=>mkI 34 ((a,b,(),c,d.1.1,(),e,()),((o4.mk 0 0 0 0 ([]:b5Y)),(o4.mk f 0 0 0 ([]:b5Y)),()))
 |.c35 a b c d=>mkI 35 ((a,b,(),c,d.1.1,(),(9223372036854775807:Int),()),((o4.mk 0 0 0 0 ([]:b5Y)),(o4.mk 3 0 0 0 ([]:b5Y)),()))
 |.c36 a b c d e f=>mkI 36 ((a,b,(),c,d.1.1,(),e,()),((o4.mk 0 0 0 0 ([]:b5Y)),(o4.mk f 0 0 0 ([]:b5Y)),()))
 |.c37 a=>mkI 37 ((a,()),())
 |.c38 a=>mkI 38 ((a,()),())
 |.c39 a=>mkI 39 ((a,()),())
 |.c40=>mkI 40 ((),())
 |.c41 a=>mkI 41 ((a,()),())
 |.c42 a b c=>mkI 42 ((a,c,b,()),())
 |.c43 a b c=>mkI 43 ((a,c,(w64 (b+1)),()),())
 |.c44 a b c d=>mkI 44 ((a,d,(w64 (b+1)),c,()),())
 |.c45 a=>mkI 45 ((a,()),())
 |.c46 a b c=>mkI 46 ((a,c,b,()),())
 |.c47 a b c=>mkI 47 ((a,c,(w64 (b+1)),()),())
 |.c48 a b=>mkI 48 ((a,b,()),())
 |.c49 a b=>mkI 49 ((a,b,(),()),((o4.mk 0 0 0 0 ([]:b5Y)),()))
 |.c50 a b c=>mkI 50 ((a,b,(),([([38,38]:b5Y),([124,124]:b5Y),([61,61]:b5Y),([33,61]:b5Y),([60,61]:b5Y),([62,61]:b5Y)]:List (b5Y)),(([([38,38]:b5Y),([124,124]:b5Y),([61,61]:b5Y),([33,61]:b5Y),([60,61]:b5Y),([62,61]:b5Y)]:List (b5Y)).length:Int),c,()),((o4.mk 0 0 0 0 ([]:b5Y)),()))
 |.c51 a b=>mkI 51 ((a,b,(),()),((o4.mk 0 0 0 0 ([]:b5Y)),()))
 |.c52 a b c=>mkI 52 ((a,b,(),([43,45,42,47,37,60,62,33,61,40,41,123,125,91,93,44,59,58,46]:b5Y),c,()),((o4.mk 0 0 0 0 ([]:b5Y)),()))
 |.c53=>mkI 53 (((),()),((o4.mk 0 0 0 0 ([]:b5Y)),()))
 |.c54 a=>mkI 54 ((a,()),())
 |.c55 a b c d e f=>mkI 55 ((a,(),([]:List o4),f,b,c,d,e,()),((y6.mk 0 0 0),()))
 |.c56 a b c d e=>mkI 56 ((a,(),([]:List o4),e,b,c,d,()),((y6.mk 0 0 0),()))
 |.c57 a=>mkI 57 ((a,()),())
 |.c58 a=>mkI 58 ((a,()),())
 |.c59 a b=>mkI 59 ((a,b,()),())
 |.c60 a b c d e=>mkI 60 ((a,b,c,d,e,()),())
 |.c61 a b=>mkI 61 ((a,b,()),())
 |.c62 a b=>mkI 62 ((a,b,()),())
 |.c63 a b=>mkI 63 ((a,b,()),())
 |.c64 a b=>mkI 64 (((),(),(),(),()),(a,(o4.mk 0 0 0 0 ([]:b5Y)),((),(0:Int),(0:Int),(0:Int),(0:Int),(0:Int),()),b.1.1,()))
 |.c65 a b=>mkI 65 ((a,b,()),())
 |.c66 a b=>mkI 66 ((a,(),(),()),(b,((),(0:Int),(0:Int),(0:Int),(0:Int),(0:Int),()),()))
 |.c67 a b=>mkI 67 ((a,b,()),())
 |.c68 a=>mkI 68 ((a,()),())
 |.c69 a b c=>mkI 69 (((),(),(),([([105,110,116]:b5Y),([98,111,111,108]:b5Y),([115,116,114]:b5Y),([99,111,109,112]:b5Y)]:List (b5Y)),(([([105,110,116]:b5Y),([98,111,111,108]:b5Y),([115,116,114]:b5Y),([99,111,109,112]:b5Y)]:List (b5Y)).length:Int),a,()),(b,((),(0:Int),(0:Int),(0:Int),(0:Int),(0:Int),()),c.1.1,()))
 |.c70 a b=>mkI 70 (((),(),(),()),(a,((),(0:Int),(0:Int),(0:Int),(0:Int),(0:Int),()),b.1.1,()))
 |.c71 a b=>mkI 71 ((a,b,()),())
 |.c72 a=>mkI 72 ((a,()),())
 |.c73 a b c d=>mkI 73 (((),(),(),(),d,()),(a,((),(0:Int),(0:Int),(0:Int),(0:Int),(0:Int),()),b.1.1,c.1.1,()))
 |.c74 a b c d=>mkI 74 (((),(),(),(),d,()),(a,((),(0:Int),(0:Int),(0:Int),(0:Int),(0:Int),()),b.1.1,c.1.1,()))
 |.c75 a b=>mkI 75 ((a,b,()),())
 |.c76 a=>mkI 76 ((a,()),())
 |.c77 a b c=>mkI 77 (((),(),c,a,()),(b,((),(0:Int),(0:Int),(0:Int),(0:Int),(0:Int),()),()))
 |.c78 a b c=>mkI 78 (((),(),c,a,()),(b,((),(0:Int),(0:Int),(0:Int),(0:Int),(0:Int),()),()))
 |.c79 a b=>mkI 79 (((),(),b,()),(a,((),(0:Int),(0:Int),(0:Int),(0:Int),(0:Int),()),()))
 |.c80 a=>mkI 80 ((a,()),())
 |.c81 a b=>mkI 81 (((),(),(),([]:List d7),(),()),(a,((),(0:Int),(0:Int),(0:Int),(0:Int),(0:Int),()),b.1.1,(l3.mk a.L (if(w64 ((a.L.length:Int)-1))<(w64 (a.I+1))then(w64 ((a.L.length:Int)-1))else(w64 (a.I+1))) a.Or a.F),()))
 |.c82 a b=>mkI 82 (((),(),(),([]:List d7),(),()),(a,((),(0:Int),(0:Int),(0:Int),(0:Int),(0:Int),()),b.1.1,(l3.mk a.L (if(w64 ((a.L.length:Int)-1))<(w64 (a.I+1))then(w64 ((a.L.length:Int)-1))else(w64 (a.I+1))) a.Or a.F),()))
 |.c83 a=>mkI 83 (((),(),()),(a,((),(0:Int),(0:Int),(0:Int),(0:Int),(0:Int),()),()))
 |.c84 a=>mkI 84 ((a,()),())
 |.c85 a b=>mkI 85 (((),(),a,()),(b,((),(0:Int),(0:Int),(0:Int),(0:Int),(0:Int),()),()))
 |.c86 a b=>mkI 86 (((),(),a,()),(b,((),(0:Int),(0:Int),(0:Int),(0:Int),(0:Int),()),()))
 |.c87 a b=>mkI 87 (((),(),a,()),(b,((),(0:Int),(0:Int),(0:Int),(0:Int),(0:Int),()),()))
 |.c88 a=>mkI 88 ((a,()),())
 |.c89 a b=>mkI 89 (((),(),(),()),(a,((),(0:Int),(0:Int),(0:Int),(0:Int),(0:Int),()),b.1.1,()))
 |.c90 a=>mkI 90 ((a,()),())
 |.c91 a b=>mkI 91 ((a,b,()),())
 |.c92 a b c d e=>mkI 92 ((a,(),(),b,e.1.1,e.1.2.1,c,()),(d,((),(0:Int),(0:Int),(0:Int),(0:Int),(0:Int),()),()))
 |.c93 a b c d e f=>mkI 93 ((a,(),(),b,d.1.1,d.1.2.1,c,(d.1.1.length:Int),e,()),(f,((),(0:Int),(0:Int),(0:Int),(0:Int),(0:Int),()),()))
 |.c94 a b c d e=>mkI 94 ((a,(),(),b,e.1.1,e.1.2.1,c,()),(d,((),(0:Int),(0:Int),(0:Int),(0:Int),(0:Int),()),()))
 |.c95 a b=>mkI 95 (((),(),a,()),(b,((),(0:Int),(0:Int),(0:Int),(0:Int),(0:Int),()),()))
 |.c96 a=>mkI 96 ((a,()),())
 |.c97 a b c=>mkI 97 (((),(),(),c,()),(((),(0:Int),(0:Int),(0:Int),(0:Int),(0:Int),()),a.1.1,b,()))
 |.c98 a b c=>mkI 98 (((),(),(),a,()),(((),(0:Int),(0:Int),(0:Int),(0:Int),(0:Int),()),b.1.1,c,()))
 |.c99 a b=>mkI 99 (((),(),(),a.1.1,()),(a.1.2.1,((),(0:Int),(0:Int),(0:Int),(0:Int),(0:Int),()),b.1.1,()))
 |.c100 a b=>mkI 100 (((),(),(),a.1.1,()),(a.1.2.1,((),(0:Int),(0:Int),(0:Int),(0:Int),(0:Int),()),b.1.1,()))
 |.c101 a b c=>mkI 101 (((),(),(),a.1.1,()),(b,((),(0:Int),(0:Int),(0:Int),(0:Int),(0:Int),()),c.1.1,()))
 |.c102 a b c=>mkI 102 (((),(),(),a.1.1,b.Ks,()),(a.1.2.1,((),(0:Int),(0:Int),(0:Int),(0:Int),(0:Int),()),c.1.1,()))
 |.c103 a=>mkI 103 ((a,()),())
 |.c104 a b c=>mkI 104 (((),(),(),c,()),(a,((),(0:Int),(0:Int),(0:Int),(0:Int),(0:Int),()),b.1.1,()))
 |.c105 a b c=>mkI 105 (((),(),(),c,()),(a,((),(0:Int),(0:Int),(0:Int),(0:Int),(0:Int),()),b.1.1,()))
 |.c106 a=>mkI 106 ((a,()),())
 |.c107 a b c d e=>mkI 107 (((),(),(),(),e,a,()),(b,((),(0:Int),(0:Int),(0:Int),(0:Int),(0:Int),()),c.1.1,d.1.1,()))
 |.c108 a b c d e=>mkI 108 (((),(),(),(),e,a,()),(b,((),(0:Int),(0:Int),(0:Int),(0:Int),(0:Int),()),c.1.1,d.1.1,()))
 |.c109 a b c d e=>mkI 109 (((),(),(),(),e,a,()),(b,((),(0:Int),(0:Int),(0:Int),(0:Int),(0:Int),()),c.1.1,d.1.1,()))
 |.c110 a b c d e f=>mkI 110 (((),(),(),(),e,a,f,()),(b,((),(0:Int),(0:Int),(0:Int),(0:Int),(0:Int),()),c.1.1,d.1.1,()))
 |.c111 a=>mkI 111 ((a,()),())
 |.c112 a b=>mkI 112 (((),(),b,()),(a,((),(0:Int),(0:Int),(0:Int),(0:Int),(0:Int),()),()))
 |.c113 a b c=>mkI 113 (((),(),b,c,()),(a,((),(0:Int),(0:Int),(0:Int),(0:Int),(0:Int),()),()))
 |.c114 a b=>mkI 114 (((),(),b,()),(a,((),(0:Int),(0:Int),(0:Int),(0:Int),(0:Int),()),()))
 |.c115 a b=>mkI 115 ((a,b,()),())
 |.c116 a b=>mkI 116 ((a,(),(),()),(b,(y6.mk 0 0 0),()))
 |.c117 a=>mkI 117 ((a,()),())
 |.c118 a b=>mkI 118 ((a,b,()),())
 |.c119 a b c d=>mkI 119 ((a,(w64 ((w64 (b+1))+c.Cs)),d,()),())
 |.c120 a b c=>mkI 120 (((w64 ((w64 (a+1))+b.Cs)),c,()),())
 |.c121 a=>mkI 121 ((a,()),())
 |.c122 a b=>mkI 122 ((a,b,()),())
 |.c123 a b=>mkI 123 ((a,b,()),())
 |.c124 a=>mkI 124 ((a,()),())
 |.c125 a=>mkI 125 ((a,()),())
 |.c126 a=>mkI 126 ((a,()),())
 |.c127 a=>mkI 127 (((),()),(a,()))
 |.c128 a=>mkI 128 (((),()),(a,()))
 |.c129 a b=>mkI 129 ((a,b,()),())
 |.c130 a b c d=>mkI 130 ((a,b,d,c,()),())
 |.c131 a=>mkI 131 ((a,()),())
 |.c132 a=>mkI 132 ((a,()),())
 |.c133 a=>mkI 133 (((),()),(a,()))
 |.c134 a=>mkI 134 (((),()),(a,()))
 |.c135 a=>mkI 135 (((),()),(a,()))
 |.c136=>mkI 136 ((),())
 |.c137 a b=>mkI 137 ((a,b,()),())
 |.c138 a b c=>mkI 138 ((a,b,c,()),())
 |.c139=>mkI 139 ((),())
 |.c140 a b=>mkI 140 ((a,b,()),())
 |.c141 a b c d e=>mkI 141 ((a,b,c.1.1,e,(c.1.1.length:Int),d,()),())
 |.c142 a b c d=>mkI 142 ((a,b,c.1.1,d,()),())
 |.c143 a b c d=>mkI 143 ((a,b,(y7 c),(),()),(d,()))
 |.c144 a=>mkI 144 ((a,()),())
 |.c145 a b=>mkI 145 ((a,(a.length:Int),b,()),())
 |.c146=>mkI 146 ((),())
 |.c147 a=>mkI 147 ((a,()),())
 |.c148 a b=>mkI 148 ((a,b,()),())
 |.c149 a b c=>mkI 149 ((a,(),(b.P.As.length:Int),c,()),(b,()))
 |.c150=>mkI 150 ((),())
 |.c151 a b=>mkI 151 ((a,b,()),())
 |.c152 a b c d e=>mkI 152 ((a,b,e,c.1.1,(c.1.1.length:Int),d,()),())
 |.c153 a=>mkI 153 ((a,()),())
 |.c154 a b c=>mkI 154 ((a,b,c,()),())
 |.c155 a b c d=>mkI 155 ((a,b,c,(b.length:Int),d,()),())
 |.c156=>mkI 156 ((),())
 |.c157 a=>mkI 157 ((a,()),())
 |.c158 a b c=>mkI 158 ((a,c,b,()),())
 |.c159 a=>mkI 159 ((a,()),())
 |.c160 a b c=>mkI 160 (((a.P.No,a.P.Ms,a.P.To,a.P.Rs,a.P.Id,a.P.As,a.P.Ss,a.P.Vars,a.P.Es,a.Rs,a.F.Code,a.F.Ls,a.F.If,()),b,c,()),())
 |.c161 a b=>mkI 161 ((a,b,()),())
 |.c162 a b c d=>mkI 162 ((a,b,d,(a.length:Int),c,()),())
 |.c163 a b c=>mkI 163 ((a,b,c,()),())
 |.c164 a=>mkI 164 ((a,()),())
 |.c165 a b c=>mkI 165 ((a,b,c,()),())
 |.c166 a b c d=>mkI 166 ((a,b,(),(b.length:Int),c,()),(d,()))
 |.c167=>mkI 167 ((),())
 |.c168 a b c=>mkI 168 ((a,b,c,()),())
 |.c169 a b c d=>mkI 169 ((d,(w64 ((a.length:Int)-1)),b,c,()),())
 |.c170 a b=>mkI 170 ((b,a,()),())
 |.c171 a b c=>mkI 171 (((a.P.No,a.P.Ms,a.P.To,a.P.Rs,a.P.Id,a.P.As,a.P.Ss,a.P.Vars,a.P.Es,a.Rs,a.F.Code,a.F.Ls,a.F.If,()),b,c,()),())
 |.c172 a b c=>mkI 172 (((a.P.No,a.P.Ms,a.P.To,a.P.Rs,a.P.Id,a.P.As,a.P.Ss,a.P.Vars,a.P.Es,a.Rs,a.F.Code,a.F.Ls,a.F.If,()),b,c,()),())
 |.c173 a b=>mkI 173 (((a.P.No,a.P.Ms,a.P.To,a.P.Rs,a.P.Id,a.P.As,a.P.Ss,a.P.Vars,a.P.Es,a.Rs,a.F.Code,a.F.Ls,a.F.If,()),b,()),())
 |.c174 a b c=>mkI 174 (((a.P.No,a.P.Ms,a.P.To,a.P.Rs,a.P.Id,a.P.As,a.P.Ss,a.P.Vars,a.P.Es,a.Rs,a.F.Code,a.F.Ls,a.F.If,()),b,c,()),())
 |.c175 a=>mkI 175 (((a.P.No,a.P.Ms,a.P.To,a.P.Rs,a.P.Id,a.P.As,a.P.Ss,a.P.Vars,a.P.Es,a.Rs,a.F.Code,a.F.Ls,a.F.If,()),()),())
 |.c176 a b c d=>mkI 176 (((),(),a.P.No,b.1.1,(b.1.1.length:Int),c,()),(d,((),(),(),(),(),(),(),(),(),(),(0:Int),(0:Int),(0:Int),()),()))
 |.c177 a b c d=>mkI 177 (((),(),a.P.No,b.1.1,c,(b.1.1.length:Int),c,()),(d,((),(),(),(),(),(),(),(),(),(),(0:Int),(0:Int),(0:Int),()),()))
 |.c178 a b c d=>mkI 178 (((),(),a.P.No,b.1.1,c,(b.1.1.length:Int),c,()),(d,((),(),(),(),(),(),(),(),(),(),(0:Int),(0:Int),(0:Int),()),()))
 |.c179 a b c=>mkI 179 (((),(),a.P.No,b.1.1,()),(c,((),(),(),(),(),(),(),(),(),(),(0:Int),(0:Int),(0:Int),()),()))
 |.c180 a b c d e=>mkI 180 (((),(),a.P.No,b.1.1,(b.1.1.length:Int),c,()),((d9.mk d.1.1.P e d.1.1.F),((),(),(),(),(),(),(),(),(),(),(0:Int),(0:Int),(0:Int),()),()))
 |.c181 a b c d=>mkI 181 (((),(),a.P.No,b.1.1,(b.1.1.length:Int),c,()),(d,((),(),(),(),(),(),(),(),(),(),(0:Int),(0:Int),(0:Int),()),()))
 |.c182 a b c d e f h j=>mkI 182 (((),(),a.P.No,b.1.1,c,d.1.1,e,(b.1.1.length:Int),f,(d.1.1.length:Int),h,()),(j,((),(),(),(),(),(),(),(),(),(),(0:Int),(0:Int),(0:Int),()),()))
 |.c183 a=>mkI 183 (((),(),()),(a,((),(),(),(),(),(),(),(),(),(),(0:Int),(0:Int),(0:Int),()),()))
 |.c184 a b c d e f h j=>mkI 184 (((),(),a.P.No,b.1.1,c,d.1.1,e,f,(b.1.1.length:Int),h,(d.1.1.length:Int),f,()),(j,((),(),(),(),(),(),(),(),(),(),(0:Int),(0:Int),(0:Int),()),()))
 |.c185 a b c d e f h j=>mkI 185 (((),(),a.P.No,b.1.1,c,d.1.1,e,f,(b.1.1.length:Int),h,(d.1.1.length:Int),f,()),(j,((),(),(),(),(),(),(),(),(),(),(0:Int),(0:Int),(0:Int),()),()))
 |.c186 a b c d e f h=>mkI 186 (((),(),a.P.No,b.1.1,c,d.1.1,e,(b.1.1.length:Int),f,()),(h,((),(),(),(),(),(),(),(),(),(),(0:Int),(0:Int),(0:Int),()),()))
 |.c187 a b c d e f h j k=>mkI 187 (((),(),a.P.No,b.1.1,c,d.1.1,e,(b.1.1.length:Int),f,(d.1.1.length:Int),h,()),((d9.mk (s9.mk j.1.1.P.No j.1.1.P.Ms j.1.1.P.To j.1.1.P.Rs k j.1.1.P.As j.1.1.P.Ss j.1.1.P.Vars j.1.1.P.Es) j.1.1.Rs j.1.1.F),((),(),(),(),(),(),(),(),(),(),(0:Int),(0:Int),(0:Int),()),()))
 |.c188 a b c d e=>mkI 188 (((),(),a.P.No,b.1.1,(b.1.1.length:Int),c,()),((d9.mk (s9.mk d.P.No d.P.Ms d.P.To e d.P.Id d.P.As d.P.Ss d.P.Vars d.P.Es) d.Rs d.F),((),(),(),(),(),(),(),(),(),(),(0:Int),(0:Int),(0:Int),()),()))
 |.c189 a=>mkI 189 ((a,()),())
 |.c190 a b=>mkI 190 ((a,([([]:b5Y),([108,101,110]:b5Y),([116,101,120,116]:b5Y),([114,101]:b5Y),([105,109]:b5Y),([112,97,105,114]:b5Y),([99,104,114]:b5Y),([114,101,97,100]:b5Y),([114,97,110,100]:b5Y)]:List (b5Y)),(([([]:b5Y),([108,101,110]:b5Y),([116,101,120,116]:b5Y),([114,101]:b5Y),([105,109]:b5Y),([112,97,105,114]:b5Y),([99,104,114]:b5Y),([114,101,97,100]:b5Y),([114,97,110,100]:b5Y)]:List (b5Y)).length:Int),b,()),())
 |.c191=>mkI 191 ((),())
 |.c192 a b c=>mkI 192 (((a.P.No,a.P.Ms,a.P.To,a.P.Rs,a.P.Id,a.P.As,a.P.Ss,a.P.Vars,a.P.Es,a.Rs,a.F.Code,a.F.Ls,a.F.If,()),b,c,()),())
 |.c193 a b c=>mkI 193 (((a.P.No,a.P.Ms,a.P.To,a.P.Rs,a.P.Id,a.P.As,a.P.Ss,a.P.Vars,a.P.Es,a.Rs,a.F.Code,a.F.Ls,a.F.If,()),b,c,()),())
 |.c194 a b=>mkI 194 (((a.P.No,a.P.Ms,a.P.To,a.P.Rs,a.P.Id,a.P.As,a.P.Ss,a.P.Vars,a.P.Es,a.Rs,a.F.Code,a.F.Ls,a.F.If,()),b,()),())
 |.c195 a=>mkI 195 (((a.P.No,a.P.Ms,a.P.To,a.P.Rs,a.P.Id,a.P.As,a.P.Ss,a.P.Vars,a.P.Es,a.Rs,a.F.Code,a.F.Ls,a.F.If,()),()),())
 |.c196 a b c d=>mkI 196 (((),(),a.P.No,b.1.1,(b.1.1.length:Int),c,()),(d,((),(),(),(),(),(),(),(),(),(),(0:Int),(0:Int),(0:Int),()),()))
 |.c197 a b c d e f h j=>mkI 197 (((),(),a.P.No,b.1.1,c,d,e.1.1,(w64 ((e.1.1.length:Int)-2)),f,(b.1.1.length:Int),h,()),(j,((),(),(),(),(),(),(),(),(),(),(0:Int),(0:Int),(0:Int),()),()))
 |.c198 a b c d e f=>mkI 198 (((),(),a.P.No,b.1.1,c,d,(b.1.1.length:Int),e,()),(f,((),(),(),(),(),(),(),(),(),(),(0:Int),(0:Int),(0:Int),()),()))
 |.c199 a=>mkI 199 (((),(),()),(a,((),(),(),(),(),(),(),(),(),(),(0:Int),(0:Int),(0:Int),()),()))
 |.c200 a b c d e f h j=>mkI 200 (((),(),a.P.No,b.1.1,c,d,e.1.1,(w64 ((e.1.1.length:Int)-2)),f,(b.1.1.length:Int),h,()),(j,((),(),(),(),(),(),(),(),(),(),(0:Int),(0:Int),(0:Int),()),()))
 |.c201 a b c d e f h j=>mkI 201 (((),(),a.P.No,b.1.1,c,d,e.1.1,(w64 ((e.1.1.length:Int)-2)),f,(b.1.1.length:Int),h,()),(j,((),(),(),(),(),(),(),(),(),(),(0:Int),(0:Int),(0:Int),()),()))
 |.c202 a b c d e f h=>mkI 202 (((),(),a.P.No,b.1.1,c,d,e.1.1,(w64 ((e.1.1.length:Int)-2)),(b.1.1.length:Int),f,()),(h,((),(),(),(),(),(),(),(),(),(),(0:Int),(0:Int),(0:Int),()),()))
 |.c203 a b c d e f=>mkI 203 (((),(),a.P.No,b.1.1,c,d,(b.1.1.length:Int),e,()),(f,((),(),(),(),(),(),(),(),(),(),(0:Int),(0:Int),(0:Int),()),()))
 |.c204 a b c d e f h j=>mkI 204 (((),(),a.P.No,b.1.1,c,d,e.1.1,(w64 ((e.1.1.length:Int)-2)),f,(b.1.1.length:Int),h,()),(j.1.1,((),(),(),(),(),(),(),(),(),(),(0:Int),(0:Int),(0:Int),()),()))
 |.c205 a b c d e=>mkI 205 (((),(),a.P.No,b.1.1,(b.1.1.length:Int),c,()),((d9.mk (s9.mk d.1.1.P.No d.1.1.P.Ms d.1.1.P.To d.1.1.P.Rs d.1.1.P.Id e d.1.1.P.Ss d.1.1.P.Vars d.1.1.P.Es) d.1.1.Rs d.1.1.F),((),(),(),(),(),(),(),(),(),(),(0:Int),(0:Int),(0:Int),()),()))
 |.c206 a b c d e=>mkI 206 (((),(),a.P.No,b.1.1,c,d,(b.1.1.length:Int),c,()),(e,((),(),(),(),(),(),(),(),(),(),(0:Int),(0:Int),(0:Int),()),()))
 |.c207 a b c d e f h=>mkI 207 (((a.P.No,a.P.Ms,a.P.To,a.P.Rs,a.P.Id,a.P.As,a.P.Ss,a.P.Vars,a.P.Es,a.Rs,a.F.Code,a.F.Ls,a.F.If,()),b,c,d,e,f,h,()),())
 |.c208 a b c=>mkI 208 (((a.P.No,a.P.Ms,a.P.To,a.P.Rs,a.P.Id,a.P.As,a.P.Ss,a.P.Vars,a.P.Es,a.Rs,a.F.Code,a.F.Ls,a.F.If,()),b,c,()),())
 |.c209 a b c=>mkI 209 (((a.P.No,a.P.Ms,a.P.To,a.P.Rs,a.P.Id,a.P.As,a.P.Ss,a.P.Vars,a.P.Es,a.Rs,a.F.Code,a.F.Ls,a.F.If,()),b,c,()),())
 |.c210 a b=>mkI 210 (((a.P.No,a.P.Ms,a.P.To,a.P.Rs,a.P.Id,a.P.As,a.P.Ss,a.P.Vars,a.P.Es,a.Rs,a.F.Code,a.F.Ls,a.F.If,()),b,()),())
 |.c211 a b c d=>mkI 211 (((a.P.No,a.P.Ms,a.P.To,a.P.Rs,a.P.Id,a.P.As,a.P.Ss,a.P.Vars,a.P.Es,a.Rs,a.F.Code,a.F.Ls,a.F.If,()),b,c,d,()),())
 |.c212 a b c d e=>mkI 212 ((a,b,c,(),(),d,()),(e,((),(),(),(),(),(),(),(),(),(),(0:Int),(0:Int),(0:Int),()),()))
 |.c213 a b c d e f h j=>mkI 213 ((a,b,c,(),(),d,(),e,(b.length:Int),f,()),(h,((),(),(),(),(),(),(),(),(),(),(0:Int),(0:Int),(0:Int),()),j,()))
 |.c214 a b c d e f=>mkI 214 ((a,b,c,(),(),d,e,()),(f,((),(),(),(),(),(),(),(),(),(),(0:Int),(0:Int),(0:Int),()),()))
 |.c215 a=>mkI 215 (((),(),()),(a,((),(),(),(),(),(),(),(),(),(),(0:Int),(0:Int),(0:Int),()),()))
 |.c216 a b c d e f=>mkI 216 ((a,b,c,(),(),d,e,()),(f,((),(),(),(),(),(),(),(),(),(),(0:Int),(0:Int),(0:Int),()),()))
 |.c217 a b c d e=>mkI 217 ((a,b,c,(),(),d,()),(e,((),(),(),(),(),(),(),(),(),(),(0:Int),(0:Int),(0:Int),()),()))
 |.c218 a b c d e=>mkI 218 (((a.P.No,a.P.Ms,a.P.To,a.P.Rs,a.P.Id,a.P.As,a.P.Ss,a.P.Vars,a.P.Es,a.Rs,a.F.Code,a.F.Ls,a.F.If,()),b,c,d,e,()),())
 |.c219 a b c d e=>mkI 219 ((a,b,(),(),c.1.1,(c.1.1.length:Int),d,()),(e,((),(),(),(),(),(),(),(),(),(),(0:Int),(0:Int),(0:Int),()),()))
 |.c220 a b c d e f h j k=>mkI 220 ((a,b,c,d,(),(),(),(e.P.Es.length:Int),f.1.1,(b.length:Int),h,()),(j,((),(),(),(),(),(),(),(),(),(),(0:Int),(0:Int),(0:Int),()),k,()))
 |.c221 a b c d e f h j=>mkI 221 ((a,b,c,d,(),(),(),(e.P.Es.length:Int),f.1.1,()),(h,((),(),(),(),(),(),(),(),(),(),(0:Int),(0:Int),(0:Int),()),j,()))
 |.c222 a b=>mkI 222 ((a,(),(),()),(b,((),(),(),(),(),(),(),(),(),(),(0:Int),(0:Int),(0:Int),()),()))
 |.c223 a b c d e f h j=>mkI 223 ((a,b,c,d,(),(),(),(e.P.Es.length:Int),f.1.1,()),(h,((),(),(),(),(),(),(),(),(),(),(0:Int),(0:Int),(0:Int),()),j,()))
 |.c224 a b c d e f h j=>mkI 224 ((a,b,c,d,(),(),(),(e.P.Es.length:Int),f.1.1,()),(h,((),(),(),(),(),(),(),(),(),(),(0:Int),(0:Int),(0:Int),()),j,()))
 |.c225 a b c d=>mkI 225 (((a.P.No,a.P.Ms,a.P.To,a.P.Rs,a.P.Id,a.P.As,a.P.Ss,a.P.Vars,a.P.Es,a.Rs,a.F.Code,a.F.Ls,a.F.If,()),b,c,d,()),())
 |.c226 a b c d e f=>mkI 226 ((a,b,c,(),(),d.1.1,(d.1.1.length:Int),e,()),(f,((),(),(),(),(),(),(),(),(),(),(0:Int),(0:Int),(0:Int),()),()))
 |.c227 a b c=>mkI 227 ((a,b,(),(),()),(c,((),(),(),(),(),(),(),(),(),(),(0:Int),(0:Int),(0:Int),()),()))
 |.c228 a b c d e=>mkI 228 ((a,b,(),(),e,(a.length:Int),c,()),(d,((),(),(),(),(),(),(),(),(),(),(0:Int),(0:Int),(0:Int),()),()))
 |.c229 a b=>mkI 229 (((),(),b,()),(a,((),(),(),(),(),(),(),(),(),(),(0:Int),(0:Int),(0:Int),()),()))
 |.c230 a b=>mkI 230 (((a.P.No,a.P.Ms,a.P.To,a.P.Rs,a.P.Id,a.P.As,a.P.Ss,a.P.Vars,a.P.Es,a.Rs,a.F.Code,a.F.Ls,a.F.If,()),b,()),())
 |.c231 a b c d e=>mkI 231 ((a,(),(),b.1.1,(w64 ((b.1.1.length:Int)-2)),e,c,()),(d,((),(),(),(),(),(),(),(),(),(),(0:Int),(0:Int),(0:Int),()),()))
 |.c232 a b c d=>mkI 232 ((a,(),(),b.1.1,(w64 ((b.1.1.length:Int)-2)),d,()),(c,((),(),(),(),(),(),(),(),(),(),(0:Int),(0:Int),(0:Int),()),()))
 |.c233 a=>mkI 233 ((a,()),())
 |.c234 a b c=>mkI 234 (((),(),(),a,b,()),(((),(),(),(),(),(),(),(),(),()),(y6.mk 0 0 0),c,()))
 |.c235 a=>mkI 235 (((),(),(),()),(((),(),(),(),(),(),(),(),(),()),(y6.mk 0 0 0),a,()))
 |.c236 a b=>mkI 236 (((),(),(),a.1.1,()),(((),(),(),(),(),(),(),(),(),()),(y6.mk 0 0 0),b,()))
 |.c237 a=>mkI 237 (((),(),(),()),(((),(),(),(),(),(),(),(),(),()),(y6.mk 0 0 0),a,()))
 |.c238 a=>mkI 238 (((),(),(),()),(((),(),(),(),(),(),(),(),(),()),(y6.mk 0 0 0),a,()))
 |.c239 a b c=>mkI 239 ((a,b,c,()),())
 |.c240 a b c=>mkI 240 ((a,b,c,()),())
 |.c241 a b c=>mkI 241 ((a,b,c,()),())
 |.c242 a b c=>mkI 242 ((a,b,c,()),())
 |.c243 a=>mkI 243 ((a,()),())
 |.c244 a b=>mkI 244 ((a,b,()),())
 |.c245 a b c=>mkI 245 ((a,b,c,()),())
 |.c246 a b=>mkI 246 ((a,b,()),())
 |.c247 a b c d e=>mkI 247 ((a,(),(),b.1.1,e,(b.1.1.length:Int),c,()),(d,((),(),(),(),(),(),(),(),(),(),(),(),(0:Int),(0:Int),(0:Int),(0:Int),()),()))
 |.c248 a b c d=>mkI 248 ((a,(),(),c.1.1,d,()),(b,((),(),(),(),(),(),(),(),(),(),(),(),(0:Int),(0:Int),(0:Int),(0:Int),()),()))
 |.c249 a b c d e=>mkI 249 (((),(),b.1.1,e,a.1.1,a.1.2.1,(b.1.1.length:Int),c,()),(d,((),(),(),(),(),(),(),(),(),(),(),(),(0:Int),(0:Int),(0:Int),(0:Int),()),()))
 |.c250 a b c d e=>mkI 250 (((),(),a.1.1,e,(),(a.1.1.length:Int),b,()),(c,((),(),(),(),(),(),(),(),(),(),(),(),(0:Int),(0:Int),(0:Int),(0:Int),()),d,()))
 |.c251 a b=>mkI 251 (((),(),a.1.2.1,()),(b,((),(),(),(),(),(),(),(),(),(),(),(),(0:Int),(0:Int),(0:Int),(0:Int),()),()))
 |.c252 a b=>mkI 252 (((),(),(),()),(a,((),(),(),(),(),(),(),(),(),(),(),(),(0:Int),(0:Int),(0:Int),(0:Int),()),b,()))
 |.c253 a b c=>mkI 253 ((a,b,c,()),())
 |.c254 a b=>mkI 254 ((a,(),(),()),(b.1.2.1,((),(),(),(),(),(),(),(),(),(),(),(),(0:Int),(0:Int),(0:Int),(0:Int),()),()))
 |.c255 a b c d=>mkI 255 ((a,(),(),(),b,()),(c.1.2.1,((),(),(),(),(),(),(),(),(),(),(),(),(0:Int),(0:Int),(0:Int),(0:Int),()),d,()))
 |.c256 a b=>mkI 256 ((a,(),(),()),(b.1.2.1,((),(),(),(),(),(),(),(),(),(),(),(),(0:Int),(0:Int),(0:Int),(0:Int),()),()))
 |.c257 a b c d=>mkI 257 ((a,b,c,d,()),())
 |.c258 a b=>mkI 258 ((a,b,()),())
 |.c259 a b c d e=>mkI 259 ((a,b,(),c.1.1,d.1.1,()),(e,()))
 |.c260 a=>mkI 260 ((a,()),())
 |.c261 a b=>mkI 261 ((a,b,()),())
 |.c262=>mkI 262 ((),())
 |.c263 a b c=>mkI 263 ((a,b,c,()),())
 |.c264 a b=>mkI 264 ((a,b,()),())
 |.c265 a b c=>mkI 265 ((a,(),(),b,()),(c,((),(),(),(),(),(),(),(),(),(),(),(),(0:Int),(0:Int),(0:Int),(0:Int),()),()))
 |.c266 a b c d=>mkI 266 ((a,(),(),d.1.1,b,c.1.1,()),(c.1.2.1,((),(),(),(),(),(),(),(),(),(),(),(),(0:Int),(0:Int),(0:Int),(0:Int),()),()))
 |.c267 a b c d e=>mkI 267 ((a,(),(),e.1.1,b,c.1.1,d.1.1,()),(d.1.2.1,((),(),(),(),(),(),(),(),(),(),(),(),(0:Int),(0:Int),(0:Int),(0:Int),()),()))
 |.c268 a b c d e=>mkI 268 ((a,(),(),(),e.1.1,b.Ts,()),(c,((),(),(),(),(),(),(),(),(),(),(),(),(0:Int),(0:Int),(0:Int),(0:Int),()),d,()))
 |.c269 a b=>mkI 269 ((a,b,()),())
 |.c270 a b c d=>mkI 270 (((),d.1.1,a.1.1,(),b.1.1,()),(((),(),(),(),(),(),(),(),(),(),(),(),(0:Int),(0:Int),(0:Int),(0:Int),()),c,()))
 |.c271 a b c d=>mkI 271 (((),(),d.1.1,a,b,()),(c,((),(),(),(),(),(),(),(),(),(),(),(),(0:Int),(0:Int),(0:Int),(0:Int),()),()))
 |.c272 a b=>mkI 272 (((),(),b.1.1,()),(a,((),(),(),(),(),(),(),(),(),(),(),(),(0:Int),(0:Int),(0:Int),(0:Int),()),()))
 |.c273 a b=>mkI 273 (((),(),a,()),(b,((),(),(),(),(),(),(),(),(),(),(),(),(0:Int),(0:Int),(0:Int),(0:Int),()),()))
 |.c274 a b=>mkI 274 ((a,b,()),())
 |.c275 a b c d=>mkI 275 (((),(),b.1.1,a,(b.1.1.length:Int),c,()),(d,((),(),(),(),(),(),(),(),(),(),(),(),(0:Int),(0:Int),(0:Int),(0:Int),()),()))
 |.c276 a b=>mkI 276 (((),(),a,()),(b,((),(),(),(),(),(),(),(),(),(),(),(),(0:Int),(0:Int),(0:Int),(0:Int),()),()))
 |.c277 a=>mkI 277 ((a,()),())
 |.c278 a b c d=>mkI 278 ((a,(),(),(),(),(b.1.1.As.length:Int),c,()),(((),(),(),(),(),(),(),(),(),()),(y6.mk 0 0 0),b.1.1,d,()))
 |.c279 a b=>mkI 279 (((),(),(),(),()),(((),(),(),(),(),(),(),(),(),()),(y6.mk 0 0 0),a.1.1,b,()))
 |.c280 a=>mkI 280 ((a,()),())
 |.c281 a=>mkI 281 ((a,()),())
 |.c282 a b c=>mkI 282 (((),a,b.As,(b.As.length:Int),c,()),(b,()))
 |.c283 a b=>mkI 283 (((),a,()),(b,()))
 |.c284 a b=>mkI 284 (((),a.Is,(a.Is.length:Int),b,()),(a,()))
 |.c285 a=>mkI 285 (((),()),(a,()))
 |.c286 a b c=>mkI 286 ((a,b.Vs,(b.Vs.length:Int),c,()),())
 |.c287=>mkI 287 ((),())
 |.c288 a b c=>mkI 288 ((a,b,c,()),())
 |.c289 a b=>mkI 289 ((a,b,()),())
 |.c290 a b=>mkI 290 (((),(),(19:Int),()),(a,b,()))
 |.c291 a b=>mkI 291 (((),(),()),(a,b,()))
 |.c292 a=>mkI 292 ((a,()),())
 |.c293 a b c=>mkI 293 ((a,b,c,()),())
 |.c294 a b=>mkI 294 (((),b,()),(a,()))
 |.c295 a b c=>mkI 295 (((),a,()),((u9.mk b.f_ b.depths_ c),()))
 |.c296 a b=>mkI 296 (((),b,()),(a,()))
 |.c297 a b=>mkI 297 (((),b,()),(a,()))
 |.c298 a b c=>mkI 298 (((),b,c,()),(a,()))
 |.c299 a b c=>mkI 299 (((),b,c,()),(a,()))
 |.c300 a b c d e=>mkI 300 (((),a,b,c,()),((u9.mk d.f_ d.depths_ e),()))
 |.c301 a b c d=>mkI 301 ((a,b,()),((u9.mk c.f_ c.depths_ d),()))
 |.c302 a b c d e f=>mkI 302 (((),a,b,c,d,()),((u9.mk e.f_ e.depths_ f),()))
 |.c303 a=>mkI 303 (((),()),(a,()))
 |.c304 a=>mkI 304 (((),()),(a,()))
 |.c305 a b=>mkI 305 ((a,b,()),())
 |.c306 a b c=>mkI 306 ((a,b,c,()),())
 |.c307 a b c=>mkI 307 (((),b,c,()),(a,()))
 |.c308 a b c d e=>mkI 308 (((),a,(),b,c.1.1,c.1.2.1,()),(d,e,()))
 |.c309 a b c d e=>mkI 309 (((),a,(),b,c.1.1,c.1.2.1,()),(d,e,()))
 |.c310 a b c d e f=>mkI 310 (((),a,(),b,c.1.1,c.1.2.1,d,()),(e,f,()))
 |.c311 a b=>mkI 311 ((a,b,()),())
 |.c312 a b c d=>mkI 312 (((),(),((List.replicate (Int.toNat a.Do) (0:Int)).length:Int),b,()),(c,(a.At,a.Do,a.Ps,a.Ss,a.By,d,(),()),()))
 |.c313 a b c=>mkI 313 (((),(),()),(a,(b.At,b.Do,b.Ps,b.Ss,b.By,c,(),()),()))
 |.c314 a b=>mkI 314 (((),(),()),(a,b,()))
 |.c315 a=>mkI 315 (((),()),(a,()))
 |.c316 a=>mkI 316 ((a,()),())
 |.c317 a b=>mkI 317 (((),a.As,(a.As.length:Int),b,()),(a,()))
 |.c318 a b c d e=>mkI 318 (((),a,(),b.As,(b.As.length:Int),c,(x8 b.Is d.At (w64 (d.At+d.Do))),((x8 b.Is d.At (w64 (d.At+d.Do))).length:Int),e,()),(b,d,()))
 |.c319 a=>mkI 319 (((),()),(a,()))
 |.c320 a b=>mkI 320 (((),a.As,(a.As.length:Int),b,()),(a,()))
 |.c321 a b=>mkI 321 (((),a.As,(a.As.length:Int),b,()),(a,()))
 |.c322=>mkI 322 ((),())
 |.c323 a b=>mkI 323 ((a,b,()),())
 |.c324 a b=>mkI 324 (((),b,()),(a,()))
 |.c325 a b c d=>mkI 325 ((a,d,b.p_.No,c,()),(b,()))
 |.c326 a b=>mkI 326 ((b,()),(a,()))
 |.c327 a b c d=>mkI 327 (((),b,c,d,()),(a,()))
 |.c328 a=>mkI 328 ((a,()),())
 |.c329 a b=>mkI 329 (((),b,()),(a,()))
 |.c330 a b=>mkI 330 (((),b,()),(a,()))
 |.c331 a b c d=>mkI 331 (((),a,b,c,()),(d,()))
 |.c332 a b c=>mkI 332 (((),b,c,()),(a,()))
 |.c333 a b=>mkI 333 (((),b,()),(a,()))
 |.c334 a b c d e f h=>mkI 334 (((),a,(),(),b,c,d,()),(e,f,h,()))
 |.c335 a b c d=>mkI 335 (((),a,d.1.1,b,()),(c.2.1,()))
 |.c336 a b c=>mkI 336 (((),a,(),c.1.1,()),(b,c.2.1,()))
 |.c337 a b c d e=>mkI 337 (((),a,(),(),b,()),(c,d,e.2.1,()))
 |.c338 a b c d=>mkI 338 (((),a,(),(),()),(b,c,d,()))
 |.c339 a b c=>mkI 339 (((),b,c,()),(a,()))
 |.c340 a b c d e=>mkI 340 (((),a,b,c.1.1,(c.1.1.length:Int),d,()),(e,()))
 |.c341 a b c=>mkI 341 (((),a,b,()),(c,()))
 |.c342 a b=>mkI 342 (((),b,()),(a,()))
 |.c343 a b=>mkI 343 (((),a,()),(b,()))
 |.c344 a b=>mkI 344 (((),b,()),(a,()))
 |.c345 a b c=>mkI 345 (((),a.1.1,(a.1.1.length:Int),b,()),(c,()))
 |.c346 a=>mkI 346 ((a,()),())
 |.c347 a b c=>mkI 347 (((),(),a.As,(a.As.length:Int),b,()),(((),(),(),()),c,()))
 |.c348 a b c d e f=>mkI 348 (((),(),(),a.As,(a.As.length:Int),b,()),(((),(),(),()),(o0.mk c.2.1.from_ d.1.1 e.Ps e.Ss f),c.2.1,()))
 |.c349 a=>mkI 349 (((),(),()),(((),(),(),()),a,()))
 |.c350 a b c d=>mkI 350 (((),(),a.As,(a.As.length:Int),b,()),(((),(),(),()),(v8.mk c.2.1.p_ (l6.mk c.2.1.c_.Is d c.2.1.c_.Vs) c.2.1.from_ c.2.1.texts_),()))
 |.l17_awake=>mkI 351 ((),())
 |.l17_source a=>mkI 352 ((a,()),())
 |.l17_VerifyPrograms a=>mkI 353 ((a,()),())
 |.c354 a b=>mkI 354 (((),a,()),(b.1.1,()))
 |.c355 a b c d=>mkI 355 (((),a,d.1.1,b,()),(c.1.1,()))
 |.c356=>mkI 356 ((),())
 |.c357 a b=>mkI 357 (((),a,()),(b.1.1,()))
 |.c358 a=>mkI 358 ((a,()),())
 |.c359 a b=>mkI 359 (((),(a.D.length:Int),b,()),(a,()))
 |.c360=>mkI 360 ((),())
 |.c361 a b c=>mkI 361 (((a.E.At,a.E.Do,a.E.Ps,a.E.Ss,a.E.By,a.D,a.On,a.Qs,()),b,c,()),())
 |.c362 a b c=>mkI 362 ((a,b,(),(),()),(c,((0:Int),(0:Int),(0:Int),(0:Int),(0:Int),(),(),(0:Int),()),()))
 |.c363 a b=>mkI 363 ((a,b,()),())
 |.c364 a=>mkI 364 (((),([0,0,0,0,0,0,0,0,1,1,2,0,1,1,1,2,3,1,2,0,1,1,0,1,1,1,0]:List Int),([0,0,1,1,1,1,1,1,0,1,1,0,0,0,0,1,0,1,0,0,1,1,1,0,0,0,0]:List Int),()),(a,()))
 |.c365 a=>mkI 365 (((),([0,0,0,0,0,0,0,0,1,1,2,0,1,1,1,2,3,1,2,0,1,1,0,1,1,1,0]:List Int),([0,0,1,1,1,1,1,1,0,1,1,0,0,0,0,1,0,1,0,0,1,1,1,0,0,0,0]:List Int),()),(a,()))
 |.c366 a b c=>mkI 366 (((a.E.At,a.E.Do,a.E.Ps,a.E.Ss,a.E.By,a.D,a.On,a.Qs,()),b,c,()),())
 |.c367 a b=>mkI 367 (((),(),()),((x5.mk a.E a.D b a.Qs),((0:Int),(0:Int),(0:Int),(0:Int),(0:Int),(),(),(0:Int),()),()))
 |.c368 a b c d e f=>mkI 368 ((a,(),(),(),b,c.1.1,c.1.2.1,()),((x5.mk d.E d.D f d.Qs),((0:Int),(0:Int),(0:Int),(0:Int),(0:Int),(),(),(0:Int),()),e,()))
 |.c369 a b c d e f=>mkI 369 ((a,(),(),(),b,c.1.1,c.1.2.1,()),((x5.mk d.E d.D f d.Qs),((0:Int),(0:Int),(0:Int),(0:Int),(0:Int),(),(),(0:Int),()),e,()))
 |.c370 a b c d e f=>mkI 370 ((a,(),(),(),b,c.1.1,c.1.2.1,()),((x5.mk d.E d.D f d.Qs),((0:Int),(0:Int),(0:Int),(0:Int),(0:Int),(),(),(0:Int),()),e,()))
 |.c371 a b c d e=>mkI 371 ((a,(),(),(),b,c.1.1,c.1.2.1,()),(d,((0:Int),(0:Int),(0:Int),(0:Int),(0:Int),(),(),(0:Int),()),e,()))
 |.c372 a b=>mkI 372 ((a,b,()),())
 |.c373 a b c d=>mkI 373 (((),(),(),((List.replicate (Int.toNat a.Do) (0:Int)).length:Int),b,()),(c,((0:Int),(0:Int),(0:Int),(0:Int),(0:Int),(),(),(0:Int),()),(x5.mk a d (List.replicate (Int.toNat a.Do) (false:Bool)) 0),()))
 |.c374 a b c=>mkI 374 (((),(),(),()),(a,((0:Int),(0:Int),(0:Int),(0:Int),(0:Int),(),(),(0:Int),()),(x5.mk b c (List.replicate (Int.toNat b.Do) (false:Bool)) 0),()))
 |.c375 a b c=>mkI 375 (((),(),(),a,()),(b,((0:Int),(0:Int),(0:Int),(0:Int),(0:Int),(),(),(0:Int),()),c,()))
 |.c376 a b=>mkI 376 (((),(),a,()),(((0:Int),(0:Int),(0:Int),(0:Int),(0:Int),(),(),(0:Int),()),b,()))
 |.c377 a=>mkI 377 ((a,()),())
 |.c378 a b c=>mkI 378 (((),a,(b.As.length:Int),c,()),(b,()))
 |.c379 a b=>mkI 379 (((),a,()),(b,()))
 |.c380 a b c d=>mkI 380 (((),a,b,(c.Vs.length:Int),d,()),(c,()))
 |.c381 a b c=>mkI 381 (((),a,b,()),(c,()))
 |.c382 a b c d=>mkI 382 (((),a,b,(c.Is.length:Int),d,()),(c,()))
 |.c383 a b c=>mkI 383 (((),a,b,()),(c,()))
 |.c384 a b c=>mkI 384 ((a,b,c,()),())
 |.c385 a b c=>mkI 385 ((a,b,c,()),())
 |.c386 a=>mkI 386 (((),()),(a,()))
 |.c387 a b=>mkI 387 (((),(),()),(a,b,()))
 |.c388 a b=>mkI 388 (((),(),()),(a,b,()))
 |.c389=>mkI 389 ((),())
 |.c390 a=>mkI 390 ((a,()),())
 |.c391 a b=>mkI 391 (((),(a.As.length:Int),b,()),(a,()))
 |.c392 a b c d e=>mkI 392 (((),a,(),b,(c.As.length:Int),d,()),(c,e,()))
 |.c393 a=>mkI 393 (((),()),(a,()))
 |.c394 a b=>mkI 394 (((),(a.As.length:Int),b,()),(a,()))
 |.c395 a b=>mkI 395 (((),(a.As.length:Int),b,()),(a,()))
 |.c396=>mkI 396 ((),())
theorem RH(c:Q_C):Bx tab Q0 (WR c)=Q_T c:=by cases c<;>kernel_rfl
noncomputable def fG(g:Gt tab Q0)(c:Q_C):Option (Q_T c):=tE (g (WR c)) (RH c)
noncomputable def d5:(c:Q_C)→Option (Q_T c):=fG (I6 Q_B)
theorem b2k(c:Q_C):d5 c=fG (Q_B (I6 Q_B)) c:=b3K Q_q _ (RH c)
abbrev Q_g:=(i:Q_C)→Option (Q_T i)
noncomputable section
def CM(g:Q_g)(a:(b5Y))(b:Int):Option RT2:=g (.c0 a b)
def Du(g:Q_g)(a:(b5Y))(b:Int)(c:Bool):Option RT2:=g (.c1 a b c)
def tZ(g:Q_g)(a:(b5Y))(b:Int)(c:Bool)(d:UInt8):Option RT2:=g (.c2 a b c d)
def iB(g:Q_g)(a:(b5Y))(b:Int)(c:Bool)(d:UInt8):Option RT2:=g (.c3 a b c d)
def LV(g:Q_g)(a:Int):Option RT2:=g (.c4 a)
def UF(g:Q_g)(a:(b5Y))(b:Int):b5L:=g (.c5 a b)
def Qn(g:Q_g)(a:(b5Y))(b:Int)(c:Int)(d:Int)(e:Int):b5L:=g (.c6 a b c d e)
def MP(g:Q_g)(a:Int)(b:Int):b5L:=g (.c7 a b)
def Hd(g:Q_g)(a:Int):Option RT2:=g (.c8 a)
def mW(g:Q_g)(a:Int):Option RT2:=g (.c9 a)
def Ym(g:Q_g)(a:Int):Option RT2:=g (.c10 a)
abbrev rN(g:Q_g):Option RT2:=g (.c11)
def KA(g:Q_g)(a:(b5Y))(b:Int):Option RT2:=g (.c12 a b)
def lG(g:Q_g)(a:(b5Y))(b:Int):Option RT2:=g (.c13 a b)
def EG(g:Q_g)(a:Int):Option RT2:=g (.c14 a)
def HO(g:Q_g)(a:(b5Y)):Option RT0:=g (.c15 a)
def oB(g:Q_g)(a:(b5Y))(b:Int):Option RT0:=g (.c16 a b)
abbrev MN(g:Q_g):Option RT0:=g (.c17)
def a0w(g:Q_g)(a:H8):Option RT8:=g (.c18 a)
def PA(g:Q_g)(a:Int):Option RT8:=g (.c19 a)
def WB(g:Q_g)(a:H8):Option RT2:=g (.c20 a)
def KJ(g:Q_g)(a:(b5Y)):b5L:=g (.c21 a)
def tR(g:Q_g)(a:(b5Y))(b:(b5Y))(c:Int):b5L:=g (.c22 a b c)
def jO(g:Q_g)(a:(b5Y))(b:(b5Y)):b5L:=g (.c23 a b)
def Vr(g:Q_g)(a:(b5Y))(b:(b5Y)):b5L:=g (.c24 a b)
def GF(g:Q_g)(a:(b5Y))(b:(b5Y)):b5L:=g (.c25 a b)
def iQ(g:Q_g)(a:(b5Y))(b:(b5Y))(c:Int)(d:Int):b5L:=g (.c26 a b c d)
def fZ(g:Q_g)(a:(b5Y))(b:(b5Y)):b5L:=g (.c27 a b)
def sV(g:Q_g)(a:(b5Y))(b:(b5Y))(c:(b5Y)):b5L:=g (.c28 a b c)
def RT(g:Q_g)(a:(b5Y))(b:(b5Y))(c:Int):b5L:=g (.c29 a b c)
def KZ(g:Q_g)(a:(b5Y))(b:Int):b5O:=g (.c30 a b)
def xB(g:Q_g)(a:(b5Y))(b:Int)(c:Int):b5O:=g (.c31 a b c)
def nY(g:Q_g)(a:(b5Y))(b:Int)(c:Int):b5O:=g (.c32 a b c)
def pE(g:Q_g)(a:(b5Y))(b:Int)(c:Int)(d:RT2)(e:Int)(f:Int):b5O:=g (.c33 a b c d e f)
def jK(g:Q_g)(a:(b5Y))(b:Int)(c:Int)(d:RT2)(e:Int)(f:Int):b5O:=g (.c34 a b c d e f)
def nV(g:Q_g)(a:(b5Y))(b:Int)(c:Int)(d:RT2):b5O:=g (.c35 a b c d)
def nD(g:Q_g)(a:(b5Y))(b:Int)(c:Int)(d:RT2)(e:Int)(f:Int):b5O:=g (.c36 a b c d e f)
def Rk(g:Q_g)(a:Int):Option RT2:=g (.c37 a)
def qG(g:Q_g)(a:Int):Option RT2:=g (.c38 a)
def eK(g:Q_g)(a:Int):Option RT2:=g (.c39 a)
abbrev mZ(g:Q_g):Option RT2:=g (.c40)
def CG(g:Q_g)(a:(b5Y)):b5U:=g (.c41 a)
def pH(g:Q_g)(a:(b5Y))(b:Int)(c:(List Int)):b5U:=g (.c42 a b c)
def rD(g:Q_g)(a:(b5Y))(b:Int)(c:(List Int)):b5U:=g (.c43 a b c)
def IE(g:Q_g)(a:(b5Y))(b:Int)(c:Int)(d:(List Int)):b5U:=g (.c44 a b c d)
def QQ(g:Q_g)(a:(b5Y)):b5U:=g (.c45 a)
def Iu(g:Q_g)(a:(b5Y))(b:Int)(c:(List Int)):b5U:=g (.c46 a b c)
def a0z(g:Q_g)(a:(b5Y))(b:Int)(c:(List Int)):b5U:=g (.c47 a b c)
def Wd(g:Q_g)(a:(b5Y))(b:Int):b5O:=g (.c48 a b)
def oZ(g:Q_g)(a:(b5Y))(b:Int):b5O:=g (.c49 a b)
def Xr(g:Q_g)(a:(b5Y))(b:Int)(c:Int):b5O:=g (.c50 a b c)
def PK(g:Q_g)(a:(b5Y))(b:Int):b5O:=g (.c51 a b)
def eQ(g:Q_g)(a:(b5Y))(b:Int)(c:Int):b5O:=g (.c52 a b c)
abbrev QA(g:Q_g):b5O:=g (.c53)
def dH(g:Q_g)(a:(b5Y)):Option Jq:=g (.c54 a)
def vF(g:Q_g)(a:(b5Y))(b:Int)(c:Int)(d:Int)(e:Int)(f:(List o4)):Option Jq:=g (.c55 a b c d e f)
def wZ(g:Q_g)(a:(b5Y))(b:Int)(c:Int)(d:Int)(e:(List o4)):Option Jq:=g (.c56 a b c d e)
def Ae(g:Q_g)(a:l3):Option RT0:=g (.c57 a)
def R9(g:Q_g)(a:l3):Option RT5:=g (.c58 a)
def E0(g:Q_g)(a:l3)(b:(b5Y)):Option RT0:=g (.c59 a b)
def E8(g:Q_g)(a:Int)(b:o4)(c:(b5Y))(d:Int)(e:(List d7)):Option Rv:=g (.c60 a b c d e)
def Dy(g:Q_g)(a:l3)(b:Int):Option RT6:=g (.c61 a b)
def H9(g:Q_g)(a:l3)(b:(b5Y)):Option RT6:=g (.c62 a b)
def Eb(g:Q_g)(a:l3)(b:Int):Option J3:=g (.c63 a b)
def eN(g:Q_g)(a:l3)(b:RT5):Option J3:=g (.c64 a b)
def Aq(g:Q_g)(a:l3)(b:(b5Y)):Option RT6:=g (.c65 a b)
def oF(g:Q_g)(a:(b5Y))(b:l3):Option RT6:=g (.c66 a b)
def Cd(g:Q_g)(a:l3)(b:(b5Y)):Option RT6:=g (.c67 a b)
def Jo(g:Q_g)(a:l3):b5J:=g (.c68 a)
def qJ(g:Q_g)(a:Int)(b:l3)(c:RT5):b5J:=g (.c69 a b c)
def AL(g:Q_g)(a:l3)(b:RT5):b5J:=g (.c70 a b)
def qQ(g:Q_g)(a:l3)(b:Int):b5J:=g (.c71 a b)
def JW(g:Q_g)(a:l3):b5J:=g (.c72 a)
def wY(g:Q_g)(a:l3)(b:RT5)(c:J3)(d:(List d7)):b5J:=g (.c73 a b c d)
def oU(g:Q_g)(a:l3)(b:RT5)(c:J3)(d:(List d7)):b5J:=g (.c74 a b c d)
def Ar(g:Q_g)(a:(List d7))(b:(List d7)):Option Rv:=g (.c75 a b)
def VB(g:Q_g)(a:l3):b5J:=g (.c76 a)
def mO(g:Q_g)(a:Int)(b:l3)(c:(List d7)):b5J:=g (.c77 a b c)
def oH(g:Q_g)(a:Int)(b:l3)(c:(List d7)):b5J:=g (.c78 a b c)
def wT(g:Q_g)(a:l3)(b:(List d7)):b5J:=g (.c79 a b)
def FM(g:Q_g)(a:l3):b5J:=g (.c80 a)
def Pa(g:Q_g)(a:l3)(b:RT5):b5J:=g (.c81 a b)
def Rd(g:Q_g)(a:l3)(b:RT5):b5J:=g (.c82 a b)
def KL(g:Q_g)(a:l3):b5J:=g (.c83 a)
def VH(g:Q_g)(a:l3):b5J:=g (.c84 a)
def Vh(g:Q_g)(a:(List d7))(b:l3):b5J:=g (.c85 a b)
def oE(g:Q_g)(a:(List d7))(b:l3):b5J:=g (.c86 a b)
def HK(g:Q_g)(a:(List d7))(b:l3):b5J:=g (.c87 a b)
def Mj(g:Q_g)(a:l3):b5J:=g (.c88 a)
def nJ(g:Q_g)(a:l3)(b:RT5):b5J:=g (.c89 a b)
def yU(g:Q_g)(a:Int):Option U9:=g (.c90 a)
def L4(g:Q_g)(a:l3)(b:Int):b5J:=g (.c91 a b)
def oY(g:Q_g)(a:Int)(b:(List d7))(c:Bool)(d:l3)(e:U9):b5J:=g (.c92 a b c d e)
def Kw(g:Q_g)(a:Int)(b:(List d7))(c:Bool)(d:U9)(e:Int)(f:l3):b5J:=g (.c93 a b c d e f)
def yT(g:Q_g)(a:Int)(b:(List d7))(c:Bool)(d:l3)(e:U9):b5J:=g (.c94 a b c d e)
def XR(g:Q_g)(a:(List d7))(b:l3):b5J:=g (.c95 a b)
def Ov(g:Q_g)(a:l3):b5J:=g (.c96 a)
def BS(g:Q_g)(a:RT5)(b:l3)(c:(List d7)):b5J:=g (.c97 a b c)
def zD(g:Q_g)(a:(List d7))(b:RT5)(c:l3):b5J:=g (.c98 a b c)
def aN(g:Q_g)(a:s8)(b:RT5):b5J:=g (.c99 a b)
def sF(g:Q_g)(a:s8)(b:RT5):b5J:=g (.c100 a b)
def Xd(g:Q_g)(a:s8)(b:l3)(c:RT5):b5J:=g (.c101 a b c)
def rI(g:Q_g)(a:s8)(b:d7)(c:RT5):b5J:=g (.c102 a b c)
def Ei(g:Q_g)(a:l3):b5J:=g (.c103 a)
def wA(g:Q_g)(a:l3)(b:RT5)(c:(List d7)):b5J:=g (.c104 a b c)
def kI(g:Q_g)(a:l3)(b:RT5)(c:(List d7)):b5J:=g (.c105 a b c)
def HJ(g:Q_g)(a:l3):b5J:=g (.c106 a)
def vZ(g:Q_g)(a:Int)(b:l3)(c:RT5)(d:J3)(e:(List d7)):b5J:=g (.c107 a b c d e)
def kG(g:Q_g)(a:Int)(b:l3)(c:RT5)(d:J3)(e:(List d7)):b5J:=g (.c108 a b c d e)
def mQ(g:Q_g)(a:Int)(b:l3)(c:RT5)(d:J3)(e:(List d7)):b5J:=g (.c109 a b c d e)
def jX(g:Q_g)(a:Int)(b:l3)(c:RT5)(d:J3)(e:(List d7))(f:(List d7)):b5J:=g (.c110 a b c d e f)
def a06(g:Q_g)(a:l3):b5J:=g (.c111 a)
def bO(g:Q_g)(a:l3)(b:(List d7)):b5J:=g (.c112 a b)
def aU(g:Q_g)(a:l3)(b:(List d7))(c:(List d7)):b5J:=g (.c113 a b c)
def uS(g:Q_g)(a:l3)(b:(List d7)):b5J:=g (.c114 a b)
def yP(g:Q_g)(a:(List d7))(b:l3):Option Jm:=g (.c115 a b)
def fV(g:Q_g)(a:(List d7))(b:l3):Option Jm:=g (.c116 a b)
def fR(g:Q_g)(a:(b5Y)):Option Jm:=g (.c117 a)
def Rb(g:Q_g)(a:(List d7))(b:Int):Option RT2:=g (.c118 a b)
def rX(g:Q_g)(a:(List d7))(b:Int)(c:d7)(d:Int):Option RT2:=g (.c119 a b c d)
def AC(g:Q_g)(a:Int)(b:d7)(c:Int):Option RT2:=g (.c120 a b c)
def oV(g:Q_g)(a:(List d7)):Option RT0:=g (.c121 a)
def pA(g:Q_g)(a:(b5Y))(b:Int):Option RT0:=g (.c122 a b)
def rS(g:Q_g)(a:(b5Y))(b:Int):Option RT0:=g (.c123 a b)
def FR(g:Q_g)(a:(b5Y)):Option RT0:=g (.c124 a)
def fJ(g:Q_g)(a:(b5Y)):Option RT0:=g (.c125 a)
def CR(g:Q_g)(a:d7):Option RT0:=g (.c126 a)
def wO(g:Q_g)(a:d7):Option RT0:=g (.c127 a)
def Gm(g:Q_g)(a:d7):Option RT0:=g (.c128 a)
def U7(g:Q_g)(a:(List d7))(b:Int):Option RT3:=g (.c129 a b)
def bU(g:Q_g)(a:(List d7))(b:Int)(c:Int)(d:(List Int)):Option RT3:=g (.c130 a b c d)
def RZ(g:Q_g)(a:(List Int)):Option RT3:=g (.c131 a)
def zJ(g:Q_g)(a:d7):Option RT2:=g (.c132 a)
def nG(g:Q_g)(a:d7):Option RT2:=g (.c133 a)
def rQ(g:Q_g)(a:d7):Option RT2:=g (.c134 a)
def qV(g:Q_g)(a:d7):Option RT2:=g (.c135 a)
abbrev LL(g:Q_g):Option RT2:=g (.c136)
def Lv(g:Q_g)(a:(b5Y))(b:Int):Option RT0:=g (.c137 a b)
def dL(g:Q_g)(a:(b5Y))(b:Int)(c:Int):Option RT0:=g (.c138 a b c)
abbrev SE(g:Q_g):Option RT0:=g (.c139)
def yJ(g:Q_g)(a:(List d7))(b:Int):Option RT0:=g (.c140 a b)
def Xj(g:Q_g)(a:(List d7))(b:Int)(c:RT3)(d:Int)(e:(List Int)):Option RT0:=g (.c141 a b c d e)
def DT(g:Q_g)(a:(List d7))(b:Int)(c:RT3)(d:(List Int)):Option RT0:=g (.c142 a b c d)
def vQ(g:Q_g)(a:(List d7))(b:Int)(c:(List Int))(d:d7):Option RT0:=g (.c143 a b c d)
def lB(g:Q_g)(a:(List d7)):Option RT0:=g (.c144 a)
def cG(g:Q_g)(a:(List d7))(b:Int):Option RT0:=g (.c145 a b)
abbrev RE(g:Q_g):Option RT0:=g (.c146)
def N2(g:Q_g)(a:d9):Option RT0:=g (.c147 a)
def fA(g:Q_g)(a:d9)(b:(b5Y)):Option RT2:=g (.c148 a b)
def fT(g:Q_g)(a:(b5Y))(b:d9)(c:Int):Option RT2:=g (.c149 a b c)
abbrev MH(g:Q_g):Option RT2:=g (.c150)
def bW(g:Q_g)(a:(List d7))(b:Int):Option RT3:=g (.c151 a b)
def aO(g:Q_g)(a:(List d7))(b:Int)(c:RT3)(d:Int)(e:(List Int)):Option RT3:=g (.c152 a b c d e)
def WK(g:Q_g)(a:(List Int)):Option RT3:=g (.c153 a)
def Qg(g:Q_g)(a:(List d7))(b:(List Int))(c:(b5Y)):Option RT0:=g (.c154 a b c)
def kL(g:Q_g)(a:(List d7))(b:(List Int))(c:(b5Y))(d:Int):Option RT0:=g (.c155 a b c d)
abbrev NL(g:Q_g):Option RT0:=g (.c156)
def DC(g:Q_g)(a:Int):Option Jc:=g (.c157 a)
def kD(g:Q_g)(a:Int)(b:Int)(c:(List r9)):Option Jc:=g (.c158 a b c)
def GN(g:Q_g)(a:(List r9)):Option Jc:=g (.c159 a)
def Fy(g:Q_g)(a:d9)(b:Int)(c:l4):b5I:=g (.c160 a b c)
def Kv(g:Q_g)(a:(List r9))(b:Int):b5V:=g (.c161 a b)
def Wl(g:Q_g)(a:(List r9))(b:Int)(c:Int)(d:(List r9)):b5V:=g (.c162 a b c d)
def RP(g:Q_g)(a:(List r9))(b:Int)(c:(List r9)):b5V:=g (.c163 a b c)
def EO(g:Q_g)(a:(List d7)):Option RT0:=g (.c164 a)
def CT(g:Q_g)(a:(List r9))(b:(List (b5Y)))(c:d7):Option RT2:=g (.c165 a b c)
def pR(g:Q_g)(a:(List r9))(b:(List (b5Y)))(c:Int)(d:d7):Option RT2:=g (.c166 a b c d)
abbrev WD(g:Q_g):Option RT2:=g (.c167)
def Pk(g:Q_g)(a:(List r9))(b:(List (b5Y)))(c:(List d7)):b5V:=g (.c168 a b c)
def JN(g:Q_g)(a:(List d7))(b:Int)(c:Int)(d:(List r9)):b5V:=g (.c169 a b c d)
def SL(g:Q_g)(a:Int)(b:(List r9)):b5V:=g (.c170 a b)
def We(g:Q_g)(a:d9)(b:Int)(c:l4):b5I:=g (.c171 a b c)
def Xi(g:Q_g)(a:d9)(b:Int)(c:Int):b5I:=g (.c172 a b c)
def rY(g:Q_g)(a:d9)(b:Int):Option N5:=g (.c173 a b)
def oG(g:Q_g)(a:d9)(b:Int)(c:Int):b5I:=g (.c174 a b c)
def DE(g:Q_g)(a:d9):b5I:=g (.c175 a)
def Sv(g:Q_g)(a:d9)(b:RT3)(c:Int)(d:d9):b5I:=g (.c176 a b c d)
def vI(g:Q_g)(a:d9)(b:RT3)(c:Int)(d:d9):b5I:=g (.c177 a b c d)
def qS(g:Q_g)(a:d9)(b:RT3)(c:Int)(d:d9):b5I:=g (.c178 a b c d)
def Sw(g:Q_g)(a:d9)(b:RT3)(c:d9):b5I:=g (.c179 a b c)
def VQ(g:Q_g)(a:d9)(b:RT3)(c:Int)(d:p9)(e:(List (b5Y))):b5I:=g (.c180 a b c d e)
def jG(g:Q_g)(a:d9)(b:RT3)(c:Int)(d:d9):b5I:=g (.c181 a b c d)
def Nh(g:Q_g)(a:d9)(b:RT3)(c:Int)(d:RT3)(e:Int)(f:Int)(h:Int)(j:d9):b5I:=g (.c182 a b c d e f h j)
def ZL(g:Q_g)(a:d9):b5I:=g (.c183 a)
def Zl(g:Q_g)(a:d9)(b:RT3)(c:Int)(d:RT3)(e:Int)(f:Int)(h:Int)(j:d9):b5I:=g (.c184 a b c d e f h j)
def Wt(g:Q_g)(a:d9)(b:RT3)(c:Int)(d:RT3)(e:Int)(f:Int)(h:Int)(j:d9):b5I:=g (.c185 a b c d e f h j)
def Wj(g:Q_g)(a:d9)(b:RT3)(c:Int)(d:RT3)(e:Int)(f:Int)(h:d9):b5I:=g (.c186 a b c d e f h)
def WM(g:Q_g)(a:d9)(b:RT3)(c:Int)(d:RT3)(e:Int)(f:Int)(h:Int)(j:p9)(k:(List Q1)):b5I:=g (.c187 a b c d e f h j k)
def XF(g:Q_g)(a:d9)(b:RT3)(c:Int)(d:d9)(e:(List N1)):b5I:=g (.c188 a b c d e)
def sN(g:Q_g)(a:(b5Y)):Option RT2:=g (.c189 a)
def rL(g:Q_g)(a:(b5Y))(b:Int):Option RT2:=g (.c190 a b)
abbrev OO(g:Q_g):Option RT2:=g (.c191)
def Pe(g:Q_g)(a:d9)(b:Int)(c:l4):b5I:=g (.c192 a b c)
def Ha(g:Q_g)(a:d9)(b:Int)(c:Int):b5I:=g (.c193 a b c)
def bI(g:Q_g)(a:d9)(b:Int):Option N5:=g (.c194 a b)
def KF(g:Q_g)(a:d9):b5I:=g (.c195 a)
def Te(g:Q_g)(a:d9)(b:RT3)(c:Int)(d:d9):b5I:=g (.c196 a b c d)
def Pt(g:Q_g)(a:d9)(b:RT3)(c:Int)(d:Int)(e:RT3)(f:Int)(h:Int)(j:d9):b5I:=g (.c197 a b c d e f h j)
def pC(g:Q_g)(a:d9)(b:RT3)(c:Int)(d:Int)(e:Int)(f:d9):b5I:=g (.c198 a b c d e f)
def XJ(g:Q_g)(a:d9):b5I:=g (.c199 a)
def Zb(g:Q_g)(a:d9)(b:RT3)(c:Int)(d:Int)(e:RT3)(f:Int)(h:Int)(j:d9):b5I:=g (.c200 a b c d e f h j)
def Wo(g:Q_g)(a:d9)(b:RT3)(c:Int)(d:Int)(e:RT3)(f:Int)(h:Int)(j:d9):b5I:=g (.c201 a b c d e f h j)
def Jk(g:Q_g)(a:d9)(b:RT3)(c:Int)(d:Int)(e:RT3)(f:Int)(h:d9):b5I:=g (.c202 a b c d e f h)
def vW(g:Q_g)(a:d9)(b:RT3)(c:Int)(d:Int)(e:Int)(f:d9):b5I:=g (.c203 a b c d e f)
def MF(g:Q_g)(a:d9)(b:RT3)(c:Int)(d:Int)(e:RT3)(f:Int)(h:Int)(j:p9):b5I:=g (.c204 a b c d e f h j)
def RX(g:Q_g)(a:d9)(b:RT3)(c:Int)(d:p9)(e:(List t9)):b5I:=g (.c205 a b c d e)
def jP(g:Q_g)(a:d9)(b:RT3)(c:Int)(d:Int)(e:d9):b5I:=g (.c206 a b c d e)
def wL(g:Q_g)(a:d9)(b:Int)(c:(List w7))(d:(b5Y))(e:Int)(f:Int)(h:Int):b5T:=g (.c207 a b c d e f h)
def Bm(g:Q_g)(a:d9)(b:Int)(c:Int):b5I:=g (.c208 a b c)
def Ep(g:Q_g)(a:d9)(b:Int)(c:l4):b5I:=g (.c209 a b c)
def Wm(g:Q_g)(a:d9)(b:Int):Option N5:=g (.c210 a b)
def eW(g:Q_g)(a:d9)(b:Int)(c:(List w7))(d:Int):b5I:=g (.c211 a b c d)
def Lh(g:Q_g)(a:Int)(b:(List w7))(c:Int)(d:Int)(e:d9):b5I:=g (.c212 a b c d e)
def Nb(g:Q_g)(a:Int)(b:(List w7))(c:Int)(d:Int)(e:Int)(f:Int)(h:d9)(j:d7):b5I:=g (.c213 a b c d e f h j)
def nZ(g:Q_g)(a:Int)(b:(List w7))(c:Int)(d:Int)(e:Int)(f:d9):b5I:=g (.c214 a b c d e f)
def NQ(g:Q_g)(a:d9):b5I:=g (.c215 a)
def JY(g:Q_g)(a:Int)(b:(List w7))(c:Int)(d:Int)(e:Int)(f:d9):b5I:=g (.c216 a b c d e f)
def Ph(g:Q_g)(a:Int)(b:(List w7))(c:Int)(d:Int)(e:d9):b5I:=g (.c217 a b c d e)
def HN(g:Q_g)(a:d9)(b:Int)(c:(List w7))(d:Int)(e:Int):b5T:=g (.c218 a b c d e)
def Mk(g:Q_g)(a:Int)(b:(List w7))(c:RT3)(d:Int)(e:d9):b5T:=g (.c219 a b c d e)
def Nd(g:Q_g)(a:Int)(b:(List w7))(c:Int)(d:Int)(e:d9)(f:N5)(h:Int)(j:d9)(k:d7):b5T:=g (.c220 a b c d e f h j k)
def cP(g:Q_g)(a:Int)(b:(List w7))(c:Int)(d:Int)(e:d9)(f:N5)(h:d9)(j:d7):b5T:=g (.c221 a b c d e f h j)
def QZ(g:Q_g)(a:(List w7))(b:d9):b5T:=g (.c222 a b)
def BE(g:Q_g)(a:Int)(b:(List w7))(c:Int)(d:Int)(e:d9)(f:N5)(h:d9)(j:d7):b5T:=g (.c223 a b c d e f h j)
def dT(g:Q_g)(a:Int)(b:(List w7))(c:Int)(d:Int)(e:d9)(f:N5)(h:d9)(j:d7):b5T:=g (.c224 a b c d e f h j)
def tQ(g:Q_g)(a:d9)(b:Int)(c:(List w7))(d:Int):b5I:=g (.c225 a b c d)
def jM(g:Q_g)(a:Int)(b:(List w7))(c:Int)(d:RT3)(e:Int)(f:d9):b5I:=g (.c226 a b c d e f)
def JR(g:Q_g)(a:(List w7))(b:Int)(c:d9):b5I:=g (.c227 a b c)
def Yr(g:Q_g)(a:(List w7))(b:Int)(c:Int)(d:d9)(e:(List I8)):b5I:=g (.c228 a b c d e)
def a0y(g:Q_g)(a:d9)(b:(List I8)):b5I:=g (.c229 a b)
def JT(g:Q_g)(a:d9)(b:Int):b5I:=g (.c230 a b)
def bG(g:Q_g)(a:Int)(b:RT3)(c:Int)(d:d9)(e:(List w7)):b5I:=g (.c231 a b c d e)
def CS(g:Q_g)(a:Int)(b:RT3)(c:d9)(d:(List w7)):b5I:=g (.c232 a b c d)
def xZ(g:Q_g)(a:(List d7)):b5P:=g (.c233 a)
def Ic(g:Q_g)(a:Int)(b:Int)(c:d9):b5P:=g (.c234 a b c)
def Ll(g:Q_g)(a:d9):b5P:=g (.c235 a)
def qP(g:Q_g)(a:RT2)(b:d9):b5P:=g (.c236 a b)
def eO(g:Q_g)(a:d9):b5P:=g (.c237 a)
def Wq(g:Q_g)(a:d9):b5P:=g (.c238 a)
def Ef(g:Q_g)(a:l8)(b:Int)(c:Int):Option RT4:=g (.c239 a b c)
def J4(g:Q_g)(a:l8)(b:Bool)(c:Int):Option RT4:=g (.c240 a b c)
def AN(g:Q_g)(a:(List r9))(b:Int)(c:Int):Option RT0:=g (.c241 a b c)
def Au(g:Q_g)(a:l8)(b:Int)(c:Int):Option RT0:=g (.c242 a b c)
def CO(g:Q_g)(a:Int):Option Ev:=g (.c243 a)
def Jy(g:Q_g)(a:l8)(b:Int):Option RT2:=g (.c244 a b)
def HP(g:Q_g)(a:l8)(b:Int)(c:Int):Option RT0:=g (.c245 a b c)
def JB(g:Q_g)(a:l8)(b:Int):b5K:=g (.c246 a b)
def Wp(g:Q_g)(a:Int)(b:RT3)(c:Int)(d:l8)(e:(List Int)):b5K:=g (.c247 a b c d e)
def FV(g:Q_g)(a:Int)(b:l8)(c:RT3)(d:(List Int)):b5K:=g (.c248 a b c d)
def Vw(g:Q_g)(a:Ev)(b:RT3)(c:Int)(d:l8)(e:(List Int)):b5K:=g (.c249 a b c d e)
def Rz(g:Q_g)(a:RT3)(b:Int)(c:l8)(d:t9)(e:(List Int)):b5K:=g (.c250 a b c d e)
def IA(g:Q_g)(a:Ev)(b:l8):b5K:=g (.c251 a b)
def IQ(g:Q_g)(a:l8)(b:t9):b5K:=g (.c252 a b)
def ZK(g:Q_g)(a:l8)(b:Int)(c:Int):b5K:=g (.c253 a b c)
def sW(g:Q_g)(a:Int)(b:A6):b5K:=g (.c254 a b)
def Tp(g:Q_g)(a:Int)(b:Int)(c:A6)(d:N1):b5K:=g (.c255 a b c d)
def NH(g:Q_g)(a:Int)(b:A6):b5K:=g (.c256 a b)
def FQ(g:Q_g)(a:l8)(b:Int)(c:Int)(d:Int):Option RT2:=g (.c257 a b c d)
def dC(g:Q_g)(a:Int)(b:Int):Option RT2:=g (.c258 a b)
def kE(g:Q_g)(a:Int)(b:Int)(c:RT2)(d:RT2)(e:l8):Option RT2:=g (.c259 a b c d e)
def qF(g:Q_g)(a:Int):Option RT2:=g (.c260 a)
def pF(g:Q_g)(a:Int)(b:Int):Option RT2:=g (.c261 a b)
abbrev Ht(g:Q_g):Option RT2:=g (.c262)
def BR(g:Q_g)(a:l8)(b:Int)(c:Int):Option RT4:=g (.c263 a b c)
def Q6(g:Q_g)(a:l8)(b:Int):b5K:=g (.c264 a b)
def I5(g:Q_g)(a:Int)(b:Int)(c:l8):b5K:=g (.c265 a b c)
def eI(g:Q_g)(a:Int)(b:Int)(c:A6)(d:RT3):b5K:=g (.c266 a b c d)
def vL(g:Q_g)(a:Int)(b:Int)(c:A6)(d:A6)(e:RT3):b5K:=g (.c267 a b c d e)
def CJ(g:Q_g)(a:Int)(b:l4)(c:l8)(d:d7)(e:RT3):b5K:=g (.c268 a b c d e)
def Gy(g:Q_g)(a:l8)(b:Int):b5S:=g (.c269 a b)
def Ql(g:Q_g)(a:A6)(b:A6)(c:l8)(d:RT3):b5S:=g (.c270 a b c d)
def Oi(g:Q_g)(a:Bool)(b:Int)(c:l8)(d:RT3):b5S:=g (.c271 a b c d)
def dJ(g:Q_g)(a:l8)(b:RT3):b5S:=g (.c272 a b)
def NO(g:Q_g)(a:Bool)(b:l8):b5S:=g (.c273 a b)
def oW(g:Q_g)(a:l8)(b:Int):b5S:=g (.c274 a b)
def pW(g:Q_g)(a:Bool)(b:RT3)(c:Int)(d:l8):b5S:=g (.c275 a b c d)
def a09(g:Q_g)(a:Bool)(b:l8):b5S:=g (.c276 a b)
def FZ(g:Q_g)(a:(List d7)):b5P:=g (.c277 a)
def Hc(g:Q_g)(a:(List d7))(b:I3)(c:Int)(d:l8):b5P:=g (.c278 a b c d)
def jU(g:Q_g)(a:I3)(b:l8):b5P:=g (.c279 a b)
def rP(g:Q_g)(a:(b5Y)):b5P:=g (.c280 a)
def aA(g:Q_g)(a:l6):Option RT0:=g (.c281 a)
def Mh(g:Q_g)(a:Int)(b:l6)(c:Int):Option RT0:=g (.c282 a b c)
def xF(g:Q_g)(a:Int)(b:l6):Option RT0:=g (.c283 a b)
def Zf(g:Q_g)(a:l6)(b:Int):Option RT0:=g (.c284 a b)
def JC(g:Q_g)(a:l6):Option RT0:=g (.c285 a)
def Uz(g:Q_g)(a:Int)(b:l6)(c:Int):Option RT0:=g (.c286 a b c)
abbrev a0o(g:Q_g):Option RT0:=g (.c287)
def fX(g:Q_g)(a:l6)(b:o0)(c:i9):Option RT2:=g (.c288 a b c)
def K7(g:Q_g)(a:Int)(b:Bool):Option RT2:=g (.c289 a b)
def DF(g:Q_g)(a:o0)(b:i9):Option RT2:=g (.c290 a b)
def bJ(g:Q_g)(a:o0)(b:i9):Option RT2:=g (.c291 a b)
def Wn(g:Q_g)(a:(List Int)):Option RT2:=g (.c292 a)
def Up(g:Q_g)(a:(List Int))(b:Int)(c:Int):Option RT0:=g (.c293 a b c)
def PB(g:Q_g)(a:u9)(b:Int):Option Ed:=g (.c294 a b)
def Tv(g:Q_g)(a:Int)(b:u9)(c:(List Int)):Option Ed:=g (.c295 a b c)
def YS(g:Q_g)(a:u9)(b:Int):Option Ed:=g (.c296 a b)
def xI(g:Q_g)(a:u9)(b:Int):Option Ed:=g (.c297 a b)
def Bn(g:Q_g)(a:u9)(b:Int)(c:Int):b5R:=g (.c298 a b c)
def YQ(g:Q_g)(a:u9)(b:Int)(c:Int):Option RT9:=g (.c299 a b c)
def Um(g:Q_g)(a:Int)(b:Int)(c:Int)(d:u9)(e:(List Int)):Option RT9:=g (.c300 a b c d e)
def bL(g:Q_g)(a:Int)(b:Int)(c:u9)(d:(List Int)):Option RT9:=g (.c301 a b c d)
def Uu(g:Q_g)(a:Int)(b:Int)(c:Int)(d:Int)(e:u9)(f:(List Int)):Option RT9:=g (.c302 a b c d e f)
def a07(g:Q_g)(a:u9):b5R:=g (.c303 a)
def nM(g:Q_g)(a:u9):b5R:=g (.c304 a)
def mH(g:Q_g)(a:l6)(b:i9):b5L:=g (.c305 a b)
def PF(g:Q_g)(a:u9)(b:i9)(c:Int):Option RT0:=g (.c306 a b c)
def rU(g:Q_g)(a:u9)(b:l6)(c:Int):b5R:=g (.c307 a b c)
def Wx(g:Q_g)(a:Int)(b:Int)(c:A8)(d:i9)(e:u9):b5R:=g (.c308 a b c d e)
def bH(g:Q_g)(a:Int)(b:Int)(c:A8)(d:i9)(e:u9):b5R:=g (.c309 a b c d e)
def Cn(g:Q_g)(a:Int)(b:Int)(c:A8)(d:Int)(e:i9)(f:u9):b5R:=g (.c310 a b c d e f)
def Io(g:Q_g)(a:l6)(b:o0):b5W:=g (.c311 a b)
def Zk(g:Q_g)(a:o0)(b:Int)(c:l6)(d:(List Int)):b5W:=g (.c312 a b c d)
def JO(g:Q_g)(a:l6)(b:o0)(c:(List Int)):b5W:=g (.c313 a b c)
def Uv(g:Q_g)(a:l6)(b:u9):b5W:=g (.c314 a b)
def TL(g:Q_g)(a:u9):b5W:=g (.c315 a)
def Zi(g:Q_g)(a:l6):b5N:=g (.c316 a)
def Nz(g:Q_g)(a:l6)(b:Int):b5N:=g (.c317 a b)
def Mu(g:Q_g)(a:Int)(b:l6)(c:Int)(d:o0)(e:Int):b5N:=g (.c318 a b c d e)
def FO(g:Q_g)(a:l6):b5N:=g (.c319 a)
def zF(g:Q_g)(a:l6)(b:Int):b5N:=g (.c320 a b)
def eH(g:Q_g)(a:l6)(b:Int):b5N:=g (.c321 a b)
abbrev QD(g:Q_g):b5N:=g (.c322)
def dE(g:Q_g)(a:l6)(b:Int):Option Lm:=g (.c323 a b)
def Ka(g:Q_g)(a:v8)(b:Int):Option N4:=g (.c324 a b)
def qX(g:Q_g)(a:Int)(b:v8)(c:Int)(d:(List Int)):Option N4:=g (.c325 a b c d)
def VN(g:Q_g)(a:v8)(b:(List Int)):Option N4:=g (.c326 a b)
def P8(g:Q_g)(a:v8)(b:Int)(c:Int)(d:Int):Option RT1:=g (.c327 a b c d)
def FJ(g:Q_g)(a:v8):Option RT2:=g (.c328 a)
def Qb(g:Q_g)(a:v8)(b:Int):b5M:=g (.c329 a b)
def JQ(g:Q_g)(a:v8)(b:(b5Y)):Option RT1:=g (.c330 a b)
def IT(g:Q_g)(a:(b5Y))(b:Int)(c:Bool)(d:v8):Option RT1:=g (.c331 a b c d)
def JH(g:Q_g)(a:v8)(b:d7)(c:l4):Option HG:=g (.c332 a b c)
def X4(g:Q_g)(a:v8)(b:Int):b5M:=g (.c333 a b)
def Ro(g:Q_g)(a:Int)(b:(List Int))(c:Int)(d:Int)(e:d7)(f:l4)(h:v8):b5M:=g (.c334 a b c d e f h)
def uG(g:Q_g)(a:Int)(b:Int)(c:F5)(d:N4):b5M:=g (.c335 a b c d)
def iU(g:Q_g)(a:Int)(b:d7)(c:N4):b5M:=g (.c336 a b c)
def aR(g:Q_g)(a:Int)(b:(List Int))(c:d7)(d:l4)(e:N4):b5M:=g (.c337 a b c d e)
def IL(g:Q_g)(a:Int)(b:d7)(c:l4)(d:v8):b5M:=g (.c338 a b c d)
def FX(g:Q_g)(a:v8)(b:Int)(c:(List Int)):b5M:=g (.c339 a b c)
def Yo(g:Q_g)(a:Int)(b:(List Int))(c:N4)(d:Int)(e:v8):b5M:=g (.c340 a b c d e)
def IY(g:Q_g)(a:Int)(b:(List Int))(c:v8):b5M:=g (.c341 a b c)
def BI(g:Q_g)(a:v8)(b:Int):b5M:=g (.c342 a b)
def CQ(g:Q_g)(a:Int)(b:v8):b5M:=g (.c343 a b)
def Oy(g:Q_g)(a:v8)(b:Int):b5M:=g (.c344 a b)
def kY(g:Q_g)(a:N4)(b:Int)(c:v8):b5M:=g (.c345 a b c)
def gW(g:Q_g)(a:s9):b5Q:=g (.c346 a)
def Vx(g:Q_g)(a:s9)(b:Int)(c:v8):b5Q:=g (.c347 a b c)
def uI(g:Q_g)(a:s9)(b:Int)(c:RT1)(d:RT2)(e:t9)(f:Int):b5Q:=g (.c348 a b c d e f)
def kZ(g:Q_g)(a:v8):b5Q:=g (.c349 a)
def MG(g:Q_g)(a:s9)(b:Int)(c:RT1)(d:(List o0)):b5Q:=g (.c350 a b c d)
abbrev xL(g:Q_g):Option RT0:=g (.l17_awake)
def DI(g:Q_g)(a:(b5Y)):Option BM:=g (.l17_source a)
def CZ(g:Q_g)(a:(b5Y)):Option RT0:=g (.l17_VerifyPrograms a)
def rH(g:Q_g)(a:Int)(b:N9):Option RT0:=g (.c354 a b)
def Qm(g:Q_g)(a:Int)(b:Int)(c:N9)(d:Lm):Option RT0:=g (.c355 a b c d)
abbrev UE(g:Q_g):Option RT0:=g (.c356)
def EA(g:Q_g)(a:Int)(b:N9):Option RT0:=g (.c357 a b)
def nU(g:Q_g)(a:x5):Option RT2:=g (.c358 a)
def Cf(g:Q_g)(a:x5)(b:Int):Option RT2:=g (.c359 a b)
abbrev QR(g:Q_g):Option RT2:=g (.c360)
def V1(g:Q_g)(a:x5)(b:Int)(c:Int):Option RT7:=g (.c361 a b c)
def tY(g:Q_g)(a:Int)(b:Int)(c:x5):Option RT7:=g (.c362 a b c)
def aM(g:Q_g)(a:l6)(b:i9):b5L:=g (.c363 a b)
def kB(g:Q_g)(a:i9):b5L:=g (.c364 a)
def uJ(g:Q_g)(a:i9):b5L:=g (.c365 a)
def aD(g:Q_g)(a:x5)(b:l6)(c:Int):Option RT7:=g (.c366 a b c)
def V7(g:Q_g)(a:x5)(b:(List Bool)):Option RT7:=g (.c367 a b)
def GB(g:Q_g)(a:Int)(b:Int)(c:A8)(d:x5)(e:i9)(f:(List Bool)):Option RT7:=g (.c368 a b c d e f)
def zC(g:Q_g)(a:Int)(b:Int)(c:A8)(d:x5)(e:i9)(f:(List Bool)):Option RT7:=g (.c369 a b c d e f)
def Bo(g:Q_g)(a:Int)(b:Int)(c:A8)(d:x5)(e:i9)(f:(List Bool)):Option RT7:=g (.c370 a b c d e f)
def Bg(g:Q_g)(a:Int)(b:Int)(c:A8)(d:x5)(e:i9):Option RT7:=g (.c371 a b c d e)
def Kt(g:Q_g)(a:l6)(b:o0):b5X:=g (.c372 a b)
def Py(g:Q_g)(a:o0)(b:Int)(c:l6)(d:(List Int)):b5X:=g (.c373 a b c d)
def BJ(g:Q_g)(a:l6)(b:o0)(c:(List Int)):b5X:=g (.c374 a b c)
def Oq(g:Q_g)(a:Int)(b:l6)(c:x5):b5X:=g (.c375 a b c)
def OI(g:Q_g)(a:Int)(b:x5):b5X:=g (.c376 a b)
def JZ(g:Q_g)(a:l6):Option RT0:=g (.c377 a)
def Mz(g:Q_g)(a:Int)(b:l6)(c:Int):Option RT0:=g (.c378 a b c)
def dX(g:Q_g)(a:Int)(b:l6):Option RT0:=g (.c379 a b)
def Xz(g:Q_g)(a:Int)(b:Int)(c:l6)(d:Int):Option RT0:=g (.c380 a b c d)
def Sz(g:Q_g)(a:Int)(b:Int)(c:l6):Option RT0:=g (.c381 a b c)
def Oj(g:Q_g)(a:Int)(b:Int)(c:l6)(d:Int):Option RT0:=g (.c382 a b c d)
def CD(g:Q_g)(a:Int)(b:Int)(c:l6):Option RT0:=g (.c383 a b c)
def V9(g:Q_g)(a:Int)(b:Int)(c:Int):Option RT0:=g (.c384 a b c)
def Fc(g:Q_g)(a:l6)(b:o0)(c:i9):Option RT2:=g (.c385 a b c)
def Hu(g:Q_g)(a:i9):Option RT2:=g (.c386 a)
def Yn(g:Q_g)(a:o0)(b:i9):Option RT2:=g (.c387 a b)
def Gv(g:Q_g)(a:o0)(b:i9):Option RT2:=g (.c388 a b)
abbrev R7(g:Q_g):Option RT2:=g (.c389)
def xQ(g:Q_g)(a:l6):b5N:=g (.c390 a)
def Hz(g:Q_g)(a:l6)(b:Int):b5N:=g (.c391 a b)
def Gp(g:Q_g)(a:Int)(b:Int)(c:l6)(d:Int)(e:o0):b5N:=g (.c392 a b c d e)
def uD(g:Q_g)(a:l6):b5N:=g (.c393 a)
def tO(g:Q_g)(a:l6)(b:Int):b5N:=g (.c394 a b)
def Tw(g:Q_g)(a:l6)(b:Int):b5N:=g (.c395 a b)
abbrev YO(g:Q_g):b5N:=g (.c396)
end
end
section
open Go.RowKit
set_option maxRecDepth 100000
set_option maxHeartbeats 4000000
noncomputable section
def Qb0(g:Q_g)(a:(b5Y))(b:Int):Option RT2:=
 Du g a b false
def Qb1(g:Q_g)(a:(b5Y))(b:Int)(c:Bool):Option RT2:=
 (cond (decide (b<(a.length:Int))) ((i6 a b).bind fun d=>(cond (decide ((d.toNat:Int)=35)) (iB g a b true d) (iB g a b c d))) (LV g b))
def Qb2(g:Q_g)(a:(b5Y))(b:Int)(c:Bool)(d:UInt8):Option RT2:=
 (cond (!c) (cond (!(decide ((d.toNat:Int)=32))) (cond (!(decide ((d.toNat:Int)=9))) (cond (!(decide ((d.toNat:Int)=13))) (cond (!(decide ((d.toNat:Int)=10))) (some ((b,()),())) (Du g a (w64 (b+1)) c)) (Du g a (w64 (b+1)) c)) (Du g a (w64 (b+1)) c)) (Du g a (w64 (b+1)) c)) (Du g a (w64 (b+1)) c))
def Qb3(g:Q_g)(a:(b5Y))(b:Int)(c:Bool)(d:UInt8):Option RT2:=
 (cond (decide ((d.toNat:Int)=10)) (tZ g a b false d) (tZ g a b c d))
def Qb4(g:Q_g)(a:Int):Option RT2:=
 (some ((a,()),()))
def Qb5(g:Q_g)(a:(b5Y))(b:Int):b5L:=
 Qn g a b 1 1 0
def Qb6(g:Q_g)(a:(b5Y))(b:Int)(c:Int)(d:Int)(e:Int):b5L:=
 (cond (decide (e<b)) ((i6 a e).bind fun f=>(cond (decide ((f.toNat:Int)=10)) (Qn g a b (w64 (c+1)) 1 (w64 (e+1))) (Qn g a b c (w64 (d+1)) (w64 (e+1))))) (MP g c d))
def Qb7(g:Q_g)(a:Int)(b:Int):b5L:=
 (some ((a,b,()),()))
def Qb8(g:Q_g)(a:Int):Option RT2:=
 (cond (decide (a≥97)) (cond (decide (a≤122)) (some ((1,()),())) (cond (decide (a=95)) (some ((1,()),())) (Ym g a))) (cond (decide (a=95)) (some ((1,()),())) (Ym g a)))
def Qb9(g:Q_g)(a:Int):Option RT2:=
 (cond (decide (a≥48)) (cond (decide (a≤57)) (some ((3,()),())) (rN g)) (rN g))
def tX(g:Q_g)(a:Int):Option RT2:=
 (cond (decide (a≥65)) (cond (decide (a≤90)) (some ((2,()),())) (mW g a)) (mW g a))
def xR(g:Q_g):Option RT2:=
 (some ((0,()),()))
def Vm(g:Q_g)(a:(b5Y))(b:Int):Option RT2:=
 lG g a b
def bK(g:Q_g)(a:(b5Y))(b:Int):Option RT2:=
 (cond (decide (b<(a.length:Int))) ((i6 a b).bind fun c=>((Hd g (c.toNat:Int)).bind fun d=>(cond (decide (d.1.1>0)) (lG g a (w64 (b+1))) (EG g b)))) (EG g b))
def Rq(g:Q_g)(a:Int):Option RT2:=
 (some ((a,()),()))
def xC(g:Q_g)(a:(b5Y)):Option RT0:=
 oB g a 0
def Tx(g:Q_g)(a:(b5Y))(b:Int):Option RT0:=
 (cond (decide (b<(([[114,101,99],[102,110],[118,97,114],[105,102],[101,108,115,101],[119,104,105,108,101],[114,101,116,117,114,110],[112,114,105,110,116],[116,114,117,101],[102,97,108,115,101],[110,105,108],[109,97,107,101],[105,110,116],[98,111,111,108],[115,116,114],[99,111,109,112]]:List (b5Y)).length:Int))) ((i6 ([[114,101,99],[102,110],[118,97,114],[105,102],[101,108,115,101],[119,104,105,108,101],[114,101,116,117,114,110],[112,114,105,110,116],[116,114,117,101],[102,97,108,115,101],[110,105,108],[109,97,107,101],[105,110,116],[98,111,111,108],[115,116,114],[99,111,109,112]]:List (b5Y)) b).bind fun c=>((([[114,101,99],[102,110],[118,97,114],[105,102],[101,108,115,101],[119,104,105,108,101],[114,101,116,117,114,110],[112,114,105,110,116],[116,114,117,101],[102,97,108,115,101],[110,105,108],[109,97,107,101],[105,110,116],[98,111,111,108],[115,116,114],[99,111,109,112]]:List (b5Y))[(Int.toNat b)]?).bind fun d=>(cond (decide (d=a)) (some ((true,()),())) (oB g a (w64 (b+1)))))) (MN g))
def nP(g:Q_g):Option RT0:=
 (some ((false,()),()))
def qU(g:Q_g)(a:H8):Option RT8:=
 (Xp a).bind fun r=>(some ((r,()),()):Option RT8)
def qI(g:Q_g)(a:Int):Option RT8:=
 (nK a).bind fun r=>(some ((r,()),()):Option RT8)
def jH(g:Q_g)(a:H8):Option RT2:=
 (Vi a).bind fun r=>(some ((r,()),()):Option RT2)
def mP(g:Q_g)(a:(b5Y)):b5L:=
 (cond (decide ((a.length:Int)>0)) ((i6 a 0).bind fun b=>(cond (decide ((b.toNat:Int)=45)) ((okP (B9 1 (a.length:Int) (a.length:Int))).bind fun _=>Vr g a (x8 a 1 (a.length:Int))) (Vr g a a))) (Vr g a a))
def Zg(g:Q_g)(a:(b5Y))(b:(b5Y))(c:Int):b5L:=
 (cond (decide (c<(b.length:Int))) ((i6 b c).bind fun d=>(cond (decide ((d.toNat:Int)<48)) (some ((0,2,()),())) ((i6 b c).bind fun e=>(cond (decide ((e.toNat:Int)>57)) (some ((0,2,()),())) (tR g a b (w64 (c+1))))))) (GF g a b))
def dA(g:Q_g)(a:(b5Y))(b:(b5Y)):b5L:=
 tR g a b 0
def nH(g:Q_g)(a:(b5Y))(b:(b5Y)):b5L:=
 (cond (decide ((b.length:Int)=0)) (some ((0,2,()),())) ((i6 b 0).bind fun c=>(cond (decide ((c.toNat:Int)=48)) (cond (decide ((a.length:Int)>1)) (some ((0,2,()),())) (jO g a b)) (jO g a b))))
def vJ(g:Q_g)(a:(b5Y))(b:(b5Y)):b5L:=
 (cond (decide ((a.length:Int)>(b.length:Int))) (sV g a b ([57,50,50,51,51,55,50,48,51,54,56,53,52,55,55,53,56,48,56]:b5Y)) (sV g a b ([57,50,50,51,51,55,50,48,51,54,56,53,52,55,55,53,56,48,55]:b5Y)))
def Vp(g:Q_g)(a:(b5Y))(b:(b5Y))(c:Int)(d:Int):b5L:=
 (cond (decide (d<(b.length:Int))) ((i6 b d).bind fun e=>iQ g a b (IntKind.wrap .u64 ((IntKind.wrap .u64 ((IntKind.wrap .u64 (c*10))+(IntKind.wrap .u64 (e.toNat:Int))))-48)) (w64 (d+1))) (RT g a b c))
def fB(g:Q_g)(a:(b5Y))(b:(b5Y)):b5L:=
 iQ g a b 0 0
def gU(g:Q_g)(a:(b5Y))(b:(b5Y))(c:(b5Y)):b5L:=
 (cond (decide ((b.length:Int)>(c.length:Int))) (some ((0,14,()),())) (cond (decide ((b.length:Int)=(c.length:Int))) (cond (!(Op.bytesLess b c||decide (b=c))) (some ((0,14,()),())) (fZ g a b)) (fZ g a b)))
def iD(g:Q_g)(a:(b5Y))(b:(b5Y))(c:Int):b5L:=
 (cond (decide ((a.length:Int)>(b.length:Int))) ((PA g (w64 c)).bind fun d=>((a0w g d.1.1).bind fun e=>((WB g e.1.1).bind fun f=>(some ((f.1.1,0,()),()))))) (some (((w64 c),0,()),())))
def iS(g:Q_g)(a:(b5Y))(b:Int):b5O:=
 xB g a b b
def Sp(g:Q_g)(a:(b5Y))(b:Int)(c:Int):b5O:=
 (cond (decide (c<(a.length:Int))) ((i6 a c).bind fun d=>((Hd g (d.toNat:Int)).bind fun e=>(cond (decide (e.1.1=3)) (xB g a b (w64 (c+1))) (nY g a b c)))) (nY g a b c))
def cD(g:Q_g)(a:(b5Y))(b:Int)(c:Int):b5O:=
 ((KA g a c).bind fun d=>(cond (decide (d.1.1=(w64 (c+1)))) ((i6 a c).bind fun e=>(cond (decide ((e.toNat:Int)=105)) (jK g a b c d 8388607 4) (nV g a b c d))) (nV g a b c d)))
def Zq(g:Q_g)(a:(b5Y))(b:Int)(c:Int)(d:RT2)(e:Int)(f:Int):b5O:=
 (cond (decide (b<(w64 (c-1)))) ((i6 a b).bind fun h=>(cond (decide ((h.toNat:Int)=48)) (pE g a (w64 (b+1)) c d e f) (nD g a b c d e f))) (nD g a b c d e f))
def pG(g:Q_g)(a:(b5Y))(b:Int)(c:Int)(d:RT2)(e:Int)(f:Int):b5O:=
 pE g a b c d e f
def kN(g:Q_g)(a:(b5Y))(b:Int)(c:Int)(d:RT2):b5O:=
 (cond (!(decide (d.1.1=c))) (some (((o4.mk 3 0 0 0 ([]:b5Y)),0,4,()),())) (jK g a b c d 9223372036854775807 3))
def dG(g:Q_g)(a:(b5Y))(b:Int)(c:Int)(d:RT2)(e:Int)(f:Int):b5O:=
 ((okP (B9 b c (a.length:Int))).bind fun _=>((KJ g (x8 a b c)).bind fun h=>(cond (!(decide (h.1.2.1=0))) (some (((o4.mk f 0 0 0 ([]:b5Y)),0,14,()),())) (cond (decide (h.1.1>e)) (some (((o4.mk f 0 0 0 ([]:b5Y)),0,14,()),())) (some (((o4.mk f 0 0 h.1.1 ([]:b5Y)),d.1.1,0,()),()))))))
def nC(g:Q_g)(a:Int):Option RT2:=
 (cond (decide (a≥48)) (cond (decide (a≤57)) (some (((w64 ((w64 a)-48)),()),())) (eK g a)) (eK g a))
def vB(g:Q_g)(a:Int):Option RT2:=
 (cond (decide (a≥65)) (cond (decide (a≤70)) (some (((w64 ((w64 a)-55)),()),())) (mZ g)) (mZ g))
def eM(g:Q_g)(a:Int):Option RT2:=
 (cond (decide (a≥97)) (cond (decide (a≤102)) (some (((w64 ((w64 a)-87)),()),())) (qG g a)) (qG g a))
def EY(g:Q_g):Option RT2:=
 (some (((-1),()),()))
def fC(g:Q_g)(a:(b5Y)):b5U:=
 (cond (decide ((a.length:Int)=0)) (some ((([]:b5Y),0,false,()),())) ((i6 a 0).bind fun b=>(cond (!(decide ((b.toNat:Int)=34))) (some ((([]:b5Y),0,false,()),())) (pH g a 1 ([]:List Int)))))
def iV(g:Q_g)(a:(b5Y))(b:Int)(c:(List Int)):b5U:=
 (cond (decide (b<(a.length:Int))) ((i6 a b).bind fun d=>(cond (decide ((d.toNat:Int)<32)) (some ((([]:b5Y),b,false,()),())) (cond (decide ((d.toNat:Int)>126)) (some ((([]:b5Y),b,false,()),())) (cond (decide ((d.toNat:Int)=34)) ((Xm c).bind fun _=>(some (((y7 c),(w64 (b+1)),true,()),()))) (cond (!(decide ((d.toNat:Int)=92))) ((A4 1 c ([(d.toNat:Int)]:List Int)).bind fun e=>Iu g a b e) (cond (decide ((w64 (b+1))≥(a.length:Int))) (some ((([]:b5Y),(w64 (b+1)),false,()),())) ((i6 a (w64 (b+1))).bind fun f=>(cond (decide ((f.toNat:Int)=34)) (rD g a b c) (cond (decide ((f.toNat:Int)=92)) (rD g a b c) (cond (decide ((f.toNat:Int)=110)) ((A4 1 c ([10]:List Int)).bind fun h=>Iu g a (w64 (b+1)) h) (cond (decide ((f.toNat:Int)=116)) ((A4 1 c ([9]:List Int)).bind fun j=>Iu g a (w64 (b+1)) j) (cond (decide ((f.toNat:Int)=120)) (IE g a b 1 c) (some ((([]:b5Y),(w64 (b+1)),false,()),())))))))))))))) (QQ g a))
def vP(g:Q_g)(a:(b5Y))(b:Int)(c:(List Int)):b5U:=
 ((i6 a (w64 (b+1))).bind fun d=>((A4 1 c ([(d.toNat:Int)]:List Int)).bind fun e=>Iu g a (w64 (b+1)) e))
def Ni(g:Q_g)(a:(b5Y))(b:Int)(c:Int)(d:(List Int)):b5U:=
 (cond (decide (c≤2)) (cond (decide ((w64 ((w64 (b+1))+c))≥(a.length:Int))) (some ((([]:b5Y),(w64 ((w64 (b+1))+c)),false,()),())) ((i6 a (w64 ((w64 (b+1))+c))).bind fun e=>((Rk g (e.toNat:Int)).bind fun f=>(cond (decide (f.1.1<0)) (some ((([]:b5Y),(w64 ((w64 (b+1))+c)),false,()),())) (IE g a b (w64 (c+1)) d))))) (a0z g a b d))
def pD(g:Q_g)(a:(b5Y)):b5U:=
 (some ((([]:b5Y),(a.length:Int),false,()),()))
def uT(g:Q_g)(a:(b5Y))(b:Int)(c:(List Int)):b5U:=
 pH g a (w64 (b+1)) c
def kF(g:Q_g)(a:(b5Y))(b:Int)(c:(List Int)):b5U:=
 ((i6 a (w64 ((w64 (b+1))+1))).bind fun d=>((Rk g (d.toNat:Int)).bind fun e=>((i6 a (w64 ((w64 (b+1))+2))).bind fun f=>((Rk g (f.toNat:Int)).bind fun h=>((A4 1 c ([(IntKind.wrap .u8 (w64 ((w64 (e.1.1*16))+h.1.1)))]:List Int)).bind fun j=>Iu g a (w64 ((w64 (b+1))+2)) j)))))
def cF(g:Q_g)(a:(b5Y))(b:Int):b5O:=
 ((i6 a b).bind fun c=>((Hd g (c.toNat:Int)).bind fun d=>(cond (decide (d.1.1=1)) (oZ g a b) (cond (decide (d.1.1=2)) (oZ g a b) (cond (decide (d.1.1=3)) ((KZ g a b).bind fun e=>(some ((e.1.1,e.1.2.1,e.1.2.2.1,()),()))) ((i6 a b).bind fun f=>(cond (decide ((f.toNat:Int)=34)) ((okP (B9 b (a.length:Int) (a.length:Int))).bind fun _=>((CG g (x8 a b (a.length:Int))).bind fun h=>(cond (!h.1.2.2.1) (some (((o4.mk 0 0 0 0 ([]:b5Y)),0,4,()),())) (some (((o4.mk 5 0 0 0 h.1.1),(w64 (b+h.1.2.1)),0,()),()))))) (Xr g a b 0))))))))
def uW(g:Q_g)(a:(b5Y))(b:Int):b5O:=
 ((KA g a b).bind fun c=>((okP (B9 b c.1.1 (a.length:Int))).bind fun _=>((i6 a b).bind fun d=>((Hd g (d.toNat:Int)).bind fun e=>(cond (decide (e.1.1=2)) (some (((o4.mk 2 0 0 0 (x8 a b c.1.1)),c.1.1,0,()),())) ((HO g (x8 a b c.1.1)).bind fun f=>(cond f.1.1 (some (((o4.mk 6 0 0 0 (x8 a b c.1.1)),c.1.1,0,()),())) (some (((o4.mk 1 0 0 0 (x8 a b c.1.1)),c.1.1,0,()),())))))))))
def Xq(g:Q_g)(a:(b5Y))(b:Int)(c:Int):b5O:=
 (cond (decide (c<(([[38,38],[124,124],[61,61],[33,61],[60,61],[62,61]]:List (b5Y)).length:Int))) (cond (decide ((w64 (b+2))≤(a.length:Int))) ((okP (B9 b (w64 (b+2)) (a.length:Int))).bind fun _=>((i6 ([[38,38],[124,124],[61,61],[33,61],[60,61],[62,61]]:List (b5Y)) c).bind fun d=>((([[38,38],[124,124],[61,61],[33,61],[60,61],[62,61]]:List (b5Y))[(Int.toNat c)]?).bind fun e=>(cond (decide ((x8 a b (w64 (b+2)))=e)) ((i6 ([[38,38],[124,124],[61,61],[33,61],[60,61],[62,61]]:List (b5Y)) c).bind fun f=>((([[38,38],[124,124],[61,61],[33,61],[60,61],[62,61]]:List (b5Y))[(Int.toNat c)]?).bind fun h=>(some (((o4.mk 7 0 0 0 h),(w64 (b+2)),0,()),())))) (Xr g a b (w64 (c+1))))))) (Xr g a b (w64 (c+1)))) (PK g a b))
def rZ(g:Q_g)(a:(b5Y))(b:Int):b5O:=
 eQ g a b 0
def Xk(g:Q_g)(a:(b5Y))(b:Int)(c:Int):b5O:=
 (cond (decide (c<(([43,45,42,47,37,60,62,33,61,40,41,123,125,91,93,44,59,58,46]:b5Y).length:Int))) ((i6 a b).bind fun d=>((i6 ([43,45,42,47,37,60,62,33,61,40,41,123,125,91,93,44,59,58,46]:b5Y) c).bind fun e=>(cond (decide ((d.toNat:Int)=(e.toNat:Int))) ((okP (B9 c (w64 (c+1)) (([43,45,42,47,37,60,62,33,61,40,41,123,125,91,93,44,59,58,46]:b5Y).length:Int))).bind fun _=>(some (((o4.mk 7 0 0 0 (x8 ([43,45,42,47,37,60,62,33,61,40,41,123,125,91,93,44,59,58,46]:b5Y) c (w64 (c+1)))),(w64 (b+1)),0,()),()))) (eQ g a b (w64 (c+1)))))) (QA g))
def pL(g:Q_g):b5O:=
 (some (((o4.mk 0 0 0 0 ([]:b5Y)),0,4,()),()))
def fL(g:Q_g)(a:(b5Y)):Option Jq:=
 (cond (decide ((a.length:Int)>65536)) (some ((([]:List o4),(y6.mk 3 0 0),()),())) ((CM g a 0).bind fun b=>vF g a b.1.1 0 1 1 ([]:List o4)))
def eP(g:Q_g)(a:(b5Y))(b:Int)(c:Int)(d:Int)(e:Int)(f:(List o4)):Option Jq:=
 ((okP (B9 c (a.length:Int) (a.length:Int))).bind fun _=>((UF g (x8 a c (a.length:Int)) (w64 (b-c))).bind fun h=>(cond (decide (h.1.1>1)) (wZ g a b (w64 (d+(w64 (h.1.1-1)))) h.1.2.1 f) (wZ g a b d (w64 (e+(w64 (h.1.2.1-1)))) f))))
def gG(g:Q_g)(a:(b5Y))(b:Int)(c:Int)(d:Int)(e:(List o4)):Option Jq:=
 (cond (decide (b≥(a.length:Int))) ((A4 48 e ([(o4.mk 8 c d 0 ([]:b5Y))]:List o4)).bind fun f=>(some ((f,(y6.mk 0 0 0),()),()))) ((Wd g a b).bind fun h=>(cond (!(decide (h.1.2.2.1=0))) (some ((([]:List o4),(y6.mk h.1.2.2.1 c d),()),())) ((A4 48 e ([(o4.mk h.1.1.Ks c d h.1.1.Ns h.1.1.Gs)]:List o4)).bind fun j=>((CM g a h.1.2.1).bind fun k=>vF g a k.1.1 b c d j)))))
def gB(g:Q_g)(a:l3):Option RT0:=
 (some (((!(decide (a.F.Code=0))),()),()))
def iO(g:Q_g)(a:l3):Option RT5:=
 ((i6 a.L a.I).bind fun b=>(some ((b,()),())))
def qO(g:Q_g)(a:l3)(b:(b5Y)):Option RT0:=
 ((R9 g a).bind fun c=>((Ae g a).bind fun d=>(cond (!d.1.1) (cond (decide (c.1.1.Ks=6)) (some (((decide (c.1.1.Gs=b)),()),())) (cond (decide (c.1.1.Ks=7)) (some (((decide (c.1.1.Gs=b)),()),())) (some ((false,()),())))) (some ((false,()),())))))
def cE(g:Q_g)(a:Int)(b:o4)(c:(b5Y))(d:Int)(e:(List d7)):Option Rv:=
 ((A4 56 ([(d7.mk a b.Ls b.If (e.length:Int) d c)]:List d7) e).bind fun f=>(some ((f,()),())))
def lL(g:Q_g)(a:l3)(b:Int):Option RT6:=
 ((Ae g a).bind fun c=>(cond (!c.1.1) ((R9 g a).bind fun d=>((R9 g a).bind fun e=>(some (((l3.mk a.L a.I a.Or (y6.mk b d.1.1.Ls e.1.1.If)),()),())))) (some ((a,()),()))))
def tL(g:Q_g)(a:l3)(b:(b5Y)):Option RT6:=
 ((E0 g a b).bind fun c=>(cond (!c.1.1) ((Dy g a 5).bind fun d=>(some ((d.1.1,()),()))) (some (((l3.mk a.L (w64 (a.I+1)) a.Or a.F),()),()))))
def cZ(g:Q_g)(a:l3)(b:Int):Option J3:=
 ((R9 g a).bind fun c=>((Ae g a).bind fun d=>(cond d.1.1 (eN g a c) (cond (!(decide (c.1.1.Ks=b))) (eN g a c) (some ((c.1.1,(l3.mk a.L (w64 (a.I+1)) a.Or a.F),()),()))))))
def oK(g:Q_g)(a:l3)(b:RT5):Option J3:=
 ((Dy g a 5).bind fun c=>(some ((b.1.1,c.1.1,()),())))
def hH(g:Q_g)(a:l3)(b:(b5Y)):Option RT6:=
 ((E0 g a b).bind fun c=>(cond c.1.1 (cond (decide (a.Or≥40)) ((Dy g a 6).bind fun d=>(some ((d.1.1,()),()))) (oF g b a)) (oF g b a)))
def nF(g:Q_g)(a:(b5Y))(b:l3):Option RT6:=
 ((H9 g b a).bind fun c=>(some (((l3.mk c.1.1.L c.1.1.I (w64 (c.1.1.Or+1)) c.1.1.F),()),())))
def fW(g:Q_g)(a:l3)(b:(b5Y)):Option RT6:=
 ((H9 g a b).bind fun c=>(some (((l3.mk c.1.1.L c.1.1.I (w64 (c.1.1.Or-1)) c.1.1.F),()),())))
def mV(g:Q_g)(a:l3):b5J:=
 ((R9 g a).bind fun b=>qJ g 0 a b)
def Uk(g:Q_g)(a:Int)(b:l3)(c:RT5):b5J:=
 (cond (decide (a<(([[105,110,116],[98,111,111,108],[115,116,114],[99,111,109,112]]:List (b5Y)).length:Int))) ((i6 ([[105,110,116],[98,111,111,108],[115,116,114],[99,111,109,112]]:List (b5Y)) a).bind fun d=>((([[105,110,116],[98,111,111,108],[115,116,114],[99,111,109,112]]:List (b5Y))[(Int.toNat a)]?).bind fun e=>((E0 g b e).bind fun f=>(cond f.1.1 ((E8 g (IntKind.wrap .u8 (w64 (15+a))) c.1.1 ([]:b5Y) 0 ([]:List d7)).bind fun h=>((i6 ([[105,110,116],[98,111,111,108],[115,116,114],[99,111,109,112]]:List (b5Y)) a).bind fun j=>((([[105,110,116],[98,111,111,108],[115,116,114],[99,111,109,112]]:List (b5Y))[(Int.toNat a)]?).bind fun k=>((H9 g b k).bind fun l=>(some ((h.1.1,l.1.1,()),())))))) (qJ g (w64 (a+1)) b c))))) (AL g b c))
def sK(g:Q_g)(a:l3)(b:RT5):b5J:=
 ((E0 g a ([91]:b5Y)).bind fun c=>(cond c.1.1 ((Aq g a ([91]:b5Y)).bind fun d=>((Jo g d.1.1).bind fun e=>((E8 g 20 b.1.1 ([]:b5Y) 0 e.1.1).bind fun f=>((Cd g e.1.2.1 ([93]:b5Y)).bind fun h=>(some ((f.1.1,h.1.1,()),())))))) ((Eb g a 2).bind fun j=>((E8 g 19 j.1.1 j.1.1.Gs 0 ([]:List d7)).bind fun k=>(some ((k.1.1,j.1.2.1,()),()))))))
def nX(g:Q_g)(a:l3)(b:Int):b5J:=
 ((Eb g a 1).bind fun c=>((H9 g c.1.2.1 ([58]:b5Y)).bind fun d=>((Jo g d.1.1).bind fun e=>((E8 g b c.1.1 c.1.1.Gs 0 e.1.1).bind fun f=>(some ((f.1.1,e.1.2.1,()),()))))))
def oI(g:Q_g)(a:l3):b5J:=
 ((R9 g a).bind fun b=>((H9 g a ([114,101,99]:b5Y)).bind fun c=>((Eb g c.1.1 2).bind fun d=>((Aq g d.1.2.1 ([123]:b5Y)).bind fun e=>wY g e.1.1 b d ([]:List d7)))))
def lZ(g:Q_g)(a:l3)(b:RT5)(c:J3)(d:(List d7)):b5J:=
 ((Ae g a).bind fun e=>(cond (!e.1.1) ((E0 g a ([125]:b5Y)).bind fun f=>(cond (!f.1.1) ((qQ g a 3).bind fun h=>((H9 g h.1.2.1 ([59]:b5Y)).bind fun j=>((A4 56 d h.1.1).bind fun k=>wY g j.1.1 b c k))) (oU g a b c d))) (oU g a b c d)))
def lC(g:Q_g)(a:l3)(b:RT5)(c:J3)(d:(List d7)):b5J:=
 ((E8 g 2 b.1.1 c.1.1.Gs 0 d).bind fun e=>((Cd g a ([125]:b5Y)).bind fun f=>(some ((e.1.1,f.1.1,()),()))))
def lE(g:Q_g)(a:(List d7))(b:(List d7)):Option Rv:=
 ((A4 56 ([]:List d7) a).bind fun c=>((A4 56 c b).bind fun d=>(some ((d,()),()))))
def sI(g:Q_g)(a:l3):b5J:=
 ((Aq g a ([40]:b5Y)).bind fun b=>mO g 0 b.1.1 ([]:List d7))
def uO(g:Q_g)(a:Int)(b:l3)(c:(List d7)):b5J:=
 ((Ae g b).bind fun d=>(cond (!d.1.1) ((E0 g b ([41]:b5Y)).bind fun e=>(cond (!e.1.1) (cond (decide (a>0)) ((H9 g b ([44]:b5Y)).bind fun f=>oH g a f.1.1 c) (oH g a b c)) (wT g b c))) (wT g b c)))
def sQ(g:Q_g)(a:Int)(b:l3)(c:(List d7)):b5J:=
 ((L4 g b 1).bind fun d=>((A4 56 c d.1.1).bind fun e=>mO g (w64 (a+1)) d.1.2.1 e))
def nT(g:Q_g)(a:l3)(b:(List d7)):b5J:=
 ((Cd g a ([41]:b5Y)).bind fun c=>(some ((b,c.1.1,()),())))
def mY(g:Q_g)(a:l3):b5J:=
 ((R9 g a).bind fun b=>((Ae g a).bind fun c=>(cond c.1.1 (some ((([(d7.mk 25 0 0 0 0 ([]:b5Y))]:List d7),a,()),())) (cond (decide (b.1.1.Ks=3)) ((E8 g 21 b.1.1 ([]:b5Y) b.1.1.Ns ([]:List d7)).bind fun d=>(some ((d.1.1,(l3.mk a.L (if(w64 ((a.L.length:Int)-1))<(w64 (a.I+1))then(w64 ((a.L.length:Int)-1))else(w64 (a.I+1))) a.Or a.F),()),()))) (cond (decide (b.1.1.Ks=4)) ((E8 g 22 b.1.1 ([]:b5Y) b.1.1.Ns ([]:List d7)).bind fun e=>(some ((e.1.1,(l3.mk a.L (if(w64 ((a.L.length:Int)-1))<(w64 (a.I+1))then(w64 ((a.L.length:Int)-1))else(w64 (a.I+1))) a.Or a.F),()),()))) (cond (decide (b.1.1.Ks=5)) ((E8 g 23 b.1.1 b.1.1.Gs 0 ([]:List d7)).bind fun f=>(some ((f.1.1,(l3.mk a.L (if(w64 ((a.L.length:Int)-1))<(w64 (a.I+1))then(w64 ((a.L.length:Int)-1))else(w64 (a.I+1))) a.Or a.F),()),()))) ((E0 g a ([116,114,117,101]:b5Y)).bind fun h=>(cond h.1.1 ((E8 g 24 b.1.1 ([]:b5Y) 1 ([]:List d7)).bind fun j=>(some ((j.1.1,(l3.mk a.L (if(w64 ((a.L.length:Int)-1))<(w64 (a.I+1))then(w64 ((a.L.length:Int)-1))else(w64 (a.I+1))) a.Or a.F),()),()))) ((E0 g a ([102,97,108,115,101]:b5Y)).bind fun k=>(cond k.1.1 ((E8 g 24 b.1.1 ([]:b5Y) 0 ([]:List d7)).bind fun l=>(some ((l.1.1,(l3.mk a.L (if(w64 ((a.L.length:Int)-1))<(w64 (a.I+1))then(w64 ((a.L.length:Int)-1))else(w64 (a.I+1))) a.Or a.F),()),()))) ((E0 g a ([110,105,108]:b5Y)).bind fun m=>(cond m.1.1 ((E8 g 25 b.1.1 ([]:b5Y) 0 ([]:List d7)).bind fun n=>(some ((n.1.1,(l3.mk a.L (if(w64 ((a.L.length:Int)-1))<(w64 (a.I+1))then(w64 ((a.L.length:Int)-1))else(w64 (a.I+1))) a.Or a.F),()),()))) (cond (decide (b.1.1.Ks=1)) ((E0 g (l3.mk a.L (if(w64 ((a.L.length:Int)-1))<(w64 (a.I+1))then(w64 ((a.L.length:Int)-1))else(w64 (a.I+1))) a.Or a.F) ([40]:b5Y)).bind fun o=>(cond (!o.1.1) ((E8 g 26 b.1.1 b.1.1.Gs 0 ([]:List d7)).bind fun p=>(some ((p.1.1,(l3.mk a.L (if(w64 ((a.L.length:Int)-1))<(w64 (a.I+1))then(w64 ((a.L.length:Int)-1))else(w64 (a.I+1))) a.Or a.F),()),()))) (Rd g a b))) (Rd g a b))))))))))))))
def sJ(g:Q_g)(a:l3)(b:RT5):b5J:=
 ((E0 g a ([109,97,107,101]:b5Y)).bind fun c=>(cond c.1.1 ((Eb g (l3.mk a.L (if(w64 ((a.L.length:Int)-1))<(w64 (a.I+1))then(w64 ((a.L.length:Int)-1))else(w64 (a.I+1))) a.Or a.F) 2).bind fun d=>((E8 g 19 d.1.1 d.1.1.Gs 0 ([]:List d7)).bind fun e=>((E8 g 32 b.1.1 ([]:b5Y) 0 e.1.1).bind fun f=>((Aq g d.1.2.1 ([40]:b5Y)).bind fun h=>((Cd g h.1.1 ([41]:b5Y)).bind fun j=>(some ((f.1.1,j.1.1,()),()))))))) (KL g a)))
def dR(g:Q_g)(a:l3)(b:RT5):b5J:=
 (cond (decide (b.1.1.Ks=1)) ((VB g (l3.mk a.L (if(w64 ((a.L.length:Int)-1))<(w64 (a.I+1))then(w64 ((a.L.length:Int)-1))else(w64 (a.I+1))) a.Or a.F)).bind fun c=>((E8 g 27 b.1.1 b.1.1.Gs 0 c.1.1).bind fun d=>(some ((d.1.1,c.1.2.1,()),())))) ((E0 g a ([40]:b5Y)).bind fun e=>(cond e.1.1 ((Aq g a ([40]:b5Y)).bind fun f=>((L4 g f.1.1 1).bind fun h=>((Cd g h.1.2.1 ([41]:b5Y)).bind fun j=>(some ((h.1.1,j.1.1,()),()))))) ((E0 g a ([109,97,107,101]:b5Y)).bind fun k=>(cond k.1.1 ((E0 g (l3.mk a.L (if(w64 ((a.L.length:Int)-1))<(w64 (a.I+1))then(w64 ((a.L.length:Int)-1))else(w64 (a.I+1))) a.Or a.F) ([91]:b5Y)).bind fun l=>(cond l.1.1 ((Jo g (l3.mk a.L (if(w64 ((a.L.length:Int)-1))<(w64 (a.I+1))then(w64 ((a.L.length:Int)-1))else(w64 (a.I+1))) a.Or a.F)).bind fun m=>((Aq g m.1.2.1 ([40]:b5Y)).bind fun n=>((L4 g n.1.1 1).bind fun o=>((Ar g m.1.1 o.1.1).bind fun p=>((E8 g 32 b.1.1 ([]:b5Y) 0 p.1.1).bind fun q=>((Cd g o.1.2.1 ([41]:b5Y)).bind fun s=>(some ((q.1.1,s.1.1,()),())))))))) (Pa g a b))) (Pa g a b))))))
def pU(g:Q_g)(a:l3):b5J:=
 ((Dy g a 5).bind fun b=>(some ((([(d7.mk 25 0 0 0 0 ([]:b5Y))]:List d7),b.1.1,()),())))
def dD(g:Q_g)(a:l3):b5J:=
 ((FM g a).bind fun b=>Vh g b.1.1 b.1.2.1)
def sL(g:Q_g)(a:(List d7))(b:l3):b5J:=
 ((E0 g b ([91]:b5Y)).bind fun c=>(cond c.1.1 (oE g a b) ((E0 g b ([46]:b5Y)).bind fun d=>(cond d.1.1 (oE g a b) (HK g a b)))))
def uY(g:Q_g)(a:(List d7))(b:l3):b5J:=
 ((R9 g b).bind fun c=>(cond (decide (c.1.1.Gs=([91]:b5Y))) ((Aq g b ([91]:b5Y)).bind fun d=>((L4 g d.1.1 1).bind fun e=>((Cd g e.1.2.1 ([93]:b5Y)).bind fun f=>((Ar g a e.1.1).bind fun h=>((E8 g 28 c.1.1 ([]:b5Y) 0 h.1.1).bind fun j=>Vh g j.1.1 f.1.1))))) ((H9 g b ([46]:b5Y)).bind fun k=>((Eb g k.1.1 1).bind fun l=>((E8 g 29 c.1.1 l.1.1.Gs 0 a).bind fun m=>Vh g m.1.1 l.1.2.1)))))
def gM(g:Q_g)(a:(List d7))(b:l3):b5J:=
 (some ((a,b,()),()))
def wR(g:Q_g)(a:l3):b5J:=
 ((R9 g a).bind fun b=>((E0 g a ([45]:b5Y)).bind fun c=>(cond (!c.1.1) ((E0 g a ([33]:b5Y)).bind fun d=>(cond (!d.1.1) ((VH g a).bind fun e=>(some ((e.1.1,e.1.2.1,()),()))) (nJ g a b))) (nJ g a b))))
def jQ(g:Q_g)(a:l3)(b:RT5):b5J:=
 ((Aq g a b.1.1.Gs).bind fun c=>((Mj g c.1.1).bind fun d=>(cond (decide (b.1.1.Gs=([45]:b5Y))) ((E8 g 30 b.1.1 ([]:b5Y) 12 d.1.1).bind fun e=>(some ((e.1.1,(l3.mk d.1.2.1.L d.1.2.1.I (w64 (d.1.2.1.Or-1)) d.1.2.1.F),()),()))) ((E8 g 30 b.1.1 ([]:b5Y) 13 d.1.1).bind fun f=>(some ((f.1.1,(l3.mk d.1.2.1.L d.1.2.1.I (w64 (d.1.2.1.Or-1)) d.1.2.1.F),()),()))))))
def vE(g:Q_g)(a:Int):Option U9:=
 (cond (decide (a=1)) (some ((([([124,124]:b5Y)]:List (b5Y)),([15]:List Int),()),())) (cond (decide (a=2)) (some ((([([38,38]:b5Y)]:List (b5Y)),([14]:List Int),()),())) (cond (decide (a=3)) (some ((([([61,61]:b5Y),([33,61]:b5Y)]:List (b5Y)),([6,7]:List Int),()),())) (cond (decide (a=4)) (some ((([([60]:b5Y),([60,61]:b5Y),([62]:b5Y),([62,61]:b5Y)]:List (b5Y)),([8,9,10,11]:List Int),()),())) (cond (decide (a=5)) (some ((([([43]:b5Y),([45]:b5Y)]:List (b5Y)),([1,2]:List Int),()),())) (some ((([([42]:b5Y),([47]:b5Y),([37]:b5Y)]:List (b5Y)),([3,4,5]:List Int),()),())))))))
def So(g:Q_g)(a:l3)(b:Int):b5J:=
 (cond (decide (b>6)) ((Mj g a).bind fun c=>(some ((c.1.1,c.1.2.1,()),()))) ((L4 g a (w64 (b+1))).bind fun d=>((yU g b).bind fun e=>oY g b d.1.1 true d.1.2.1 e)))
def aX(g:Q_g)(a:Int)(b:(List d7))(c:Bool)(d:l3)(e:U9):b5J:=
 (cond c (Kw g a b false e 0 d) (XR g b d))
def Xx(g:Q_g)(a:Int)(b:(List d7))(c:Bool)(d:U9)(e:Int)(f:l3):b5J:=
 (cond (decide (e<(d.1.1.length:Int))) (cond (!c) ((i6 d.1.1 e).bind fun h=>((d.1.1[(Int.toNat e)]?).bind fun j=>((E0 g f j).bind fun k=>(cond k.1.1 ((R9 g f).bind fun l=>((i6 d.1.1 e).bind fun m=>((d.1.1[(Int.toNat e)]?).bind fun n=>((H9 g f n).bind fun o=>((L4 g o.1.1 (w64 (a+1))).bind fun p=>((i6 d.1.2.1 e).bind fun q=>((d.1.2.1[(Int.toNat e)]?).bind fun s=>((Ar g b p.1.1).bind fun t=>((E8 g 31 l.1.1 ([]:b5Y) s t.1.1).bind fun u=>Kw g a u.1.1 true d (w64 (e+1)) p.1.2.1))))))))) (Kw g a b c d (w64 (e+1)) f))))) (Kw g a b c d (w64 (e+1)) f)) (yT g a b c f d))
def oQ(g:Q_g)(a:Int)(b:(List d7))(c:Bool)(d:l3)(e:U9):b5J:=
 (cond (decide (a=3)) (some ((b,d,()),())) (cond (decide (a=4)) (some ((b,d,()),())) (oY g a b c d e)))
def gQ(g:Q_g)(a:(List d7))(b:l3):b5J:=
 (some ((a,b,()),()))
def mL(g:Q_g)(a:l3):b5J:=
 ((R9 g a).bind fun b=>((E0 g a ([118,97,114]:b5Y)).bind fun c=>(cond c.1.1 ((H9 g a ([118,97,114]:b5Y)).bind fun d=>((Eb g d.1.1 1).bind fun e=>((H9 g e.1.2.1 ([58]:b5Y)).bind fun f=>((Jo g f.1.1).bind fun h=>((H9 g h.1.2.1 ([61]:b5Y)).bind fun j=>((L4 g j.1.1 1).bind fun k=>((Ar g h.1.1 k.1.1).bind fun l=>((E8 g 7 b.1.1 e.1.1.Gs 0 l.1.1).bind fun m=>((H9 g k.1.2.1 ([59]:b5Y)).bind fun n=>(some ((m.1.1,n.1.1,()),()))))))))))) ((E0 g a ([105,102]:b5Y)).bind fun o=>(cond o.1.1 ((H9 g a ([105,102]:b5Y)).bind fun p=>((L4 g p.1.1 1).bind fun q=>((Ei g q.1.2.1).bind fun s=>((Ar g q.1.1 s.1.1).bind fun t=>((E0 g s.1.2.1 ([101,108,115,101]:b5Y)).bind fun u=>(cond u.1.1 ((H9 g s.1.2.1 ([101,108,115,101]:b5Y)).bind fun v=>((Ei g v.1.1).bind fun w=>((Ar g t.1.1 w.1.1).bind fun y=>BS g b w.1.2.1 y.1.1))) (BS g b s.1.2.1 t.1.1))))))) ((E0 g a ([119,104,105,108,101]:b5Y)).bind fun z=>(cond z.1.1 ((H9 g a ([119,104,105,108,101]:b5Y)).bind fun a1=>((L4 g a1.1.1 1).bind fun b1=>((Ei g b1.1.2.1).bind fun c1=>((Ar g b1.1.1 c1.1.1).bind fun d1=>((E8 g 10 b.1.1 ([]:b5Y) 0 d1.1.1).bind fun e1=>(some ((e1.1.1,c1.1.2.1,()),()))))))) ((E0 g a ([114,101,116,117,114,110]:b5Y)).bind fun f1=>(cond f1.1.1 ((H9 g a ([114,101,116,117,114,110]:b5Y)).bind fun h1=>((E0 g h1.1.1 ([59]:b5Y)).bind fun j1=>(cond (!j1.1.1) ((L4 g h1.1.1 1).bind fun k1=>zD g k1.1.1 b k1.1.2.1) (zD g ([]:List d7) b h1.1.1)))) ((E0 g a ([112,114,105,110,116]:b5Y)).bind fun l1=>(cond l1.1.1 ((H9 g a ([112,114,105,110,116]:b5Y)).bind fun m1=>((L4 g m1.1.1 1).bind fun n1=>((E8 g 12 b.1.1 ([]:b5Y) 0 n1.1.1).bind fun o1=>((H9 g n1.1.2.1 ([59]:b5Y)).bind fun p1=>(some ((o1.1.1,p1.1.1,()),())))))) ((L4 g a 1).bind fun q1=>((i6 q1.1.1 0).bind fun s1=>((E0 g q1.1.2.1 ([61]:b5Y)).bind fun t1=>(cond t1.1.1 (cond (decide (s1.Ks=26)) (aN g q1 b) (cond (decide (s1.Ks=28)) (aN g q1 b) (cond (decide (s1.Ks=29)) (aN g q1 b) (rI g q1 s1 b)))) (rI g q1 s1 b))))))))))))))))
def Zx(g:Q_g)(a:RT5)(b:l3)(c:(List d7)):b5J:=
 ((E8 g 9 a.1.1 ([]:b5Y) 0 c).bind fun d=>(some ((d.1.1,b,()),())))
def Sg(g:Q_g)(a:(List d7))(b:RT5)(c:l3):b5J:=
 ((E8 g 11 b.1.1 ([]:b5Y) 0 a).bind fun d=>((H9 g c ([59]:b5Y)).bind fun e=>(some ((d.1.1,e.1.1,()),()))))
def fY(g:Q_g)(a:s8)(b:RT5):b5J:=
 ((H9 g a.1.2.1 ([61]:b5Y)).bind fun c=>((L4 g c.1.1 1).bind fun d=>((Ar g a.1.1 d.1.1).bind fun e=>((E8 g 8 b.1.1 ([]:b5Y) 0 e.1.1).bind fun f=>((H9 g d.1.2.1 ([59]:b5Y)).bind fun h=>(some ((f.1.1,h.1.1,()),())))))))
def vR(g:Q_g)(a:s8)(b:RT5):b5J:=
 ((Dy g a.1.2.1 5).bind fun c=>Xd g a c.1.1 b)
def sB(g:Q_g)(a:s8)(b:l3)(c:RT5):b5J:=
 ((E8 g 13 c.1.1 ([]:b5Y) 0 a.1.1).bind fun d=>((H9 g b ([59]:b5Y)).bind fun e=>(some ((d.1.1,e.1.1,()),()))))
def tJ(g:Q_g)(a:s8)(b:d7)(c:RT5):b5J:=
 ((E0 g a.1.2.1 ([61]:b5Y)).bind fun d=>(cond d.1.1 (sF g a c) ((E0 g a.1.2.1 ([59]:b5Y)).bind fun e=>(cond e.1.1 (cond (!(decide (b.Ks=27))) (sF g a c) (Xd g a a.1.2.1 c)) (Xd g a a.1.2.1 c)))))
def wU(g:Q_g)(a:l3):b5J:=
 ((R9 g a).bind fun b=>((Aq g a ([123]:b5Y)).bind fun c=>wA g c.1.1 b ([]:List d7)))
def tV(g:Q_g)(a:l3)(b:RT5)(c:(List d7)):b5J:=
 ((Ae g a).bind fun d=>(cond (!d.1.1) ((E0 g a ([125]:b5Y)).bind fun e=>(cond (!e.1.1) ((Ov g a).bind fun f=>((A4 56 c f.1.1).bind fun h=>wA g f.1.2.1 b h)) (kI g a b c))) (kI g a b c)))
def rA(g:Q_g)(a:l3)(b:RT5)(c:(List d7)):b5J:=
 ((E8 g 6 b.1.1 ([]:b5Y) 0 c).bind fun d=>((Cd g a ([125]:b5Y)).bind fun e=>(some ((d.1.1,e.1.1,()),()))))
def lQ(g:Q_g)(a:l3):b5J:=
 ((R9 g a).bind fun b=>((H9 g a ([102,110]:b5Y)).bind fun c=>((Eb g c.1.1 1).bind fun d=>((Aq g d.1.2.1 ([40]:b5Y)).bind fun e=>vZ g 0 e.1.1 b d ([]:List d7)))))
def sX(g:Q_g)(a:Int)(b:l3)(c:RT5)(d:J3)(e:(List d7)):b5J:=
 ((Ae g b).bind fun f=>(cond (!f.1.1) ((E0 g b ([41]:b5Y)).bind fun h=>(cond (!h.1.1) (cond (decide (a>0)) ((H9 g b ([44]:b5Y)).bind fun j=>kG g a j.1.1 c d e) (kG g a b c d e)) (mQ g a b c d e))) (mQ g a b c d e)))
def tF(g:Q_g)(a:Int)(b:l3)(c:RT5)(d:J3)(e:(List d7)):b5J:=
 ((qQ g b 5).bind fun f=>((A4 56 e f.1.1).bind fun h=>vZ g (w64 (a+1)) f.1.2.1 c d h))
def bQ(g:Q_g)(a:Int)(b:l3)(c:RT5)(d:J3)(e:(List d7)):b5J:=
 ((Cd g b ([41]:b5Y)).bind fun f=>((E0 g f.1.1 ([58]:b5Y)).bind fun h=>(cond h.1.1 ((H9 g f.1.1 ([58]:b5Y)).bind fun j=>((Jo g j.1.1).bind fun k=>jX g a k.1.2.1 c d e k.1.1)) (jX g a f.1.1 c d e ([(d7.mk 14 0 0 0 0 ([]:b5Y))]:List d7)))))
def gX(g:Q_g)(a:Int)(b:l3)(c:RT5)(d:J3)(e:(List d7))(f:(List d7)):b5J:=
 ((Ei g b).bind fun h=>((Ar g e f).bind fun j=>((Ar g j.1.1 h.1.1).bind fun k=>((E8 g 4 c.1.1 d.1.1.Gs a k.1.1).bind fun l=>(some ((l.1.1,h.1.2.1,()),()))))))
def mK(g:Q_g)(a:l3):b5J:=
 bO g a ([]:List d7)
def gH(g:Q_g)(a:l3)(b:(List d7)):b5J:=
 ((Ae g a).bind fun c=>(cond (!c.1.1) ((R9 g a).bind fun d=>(cond (!(decide (d.1.1.Ks=8))) ((E0 g a ([114,101,99]:b5Y)).bind fun e=>(cond e.1.1 ((JW g a).bind fun f=>aU g f.1.2.1 b f.1.1) ((E0 g a ([102,110]:b5Y)).bind fun h=>(cond h.1.1 ((HJ g a).bind fun j=>aU g j.1.2.1 b j.1.1) ((Dy g a 5).bind fun k=>aU g k.1.1 b ([]:List d7)))))) (uS g a b))) (uS g a b)))
def gK(g:Q_g)(a:l3)(b:(List d7))(c:(List d7)):b5J:=
 ((A4 56 b c).bind fun d=>bO g a d)
def sZ(g:Q_g)(a:l3)(b:(List d7)):b5J:=
 ((E8 g 1 (o4.mk 0 1 1 0 ([]:b5Y)) ([]:b5Y) 0 b).bind fun c=>(some ((c.1.1,a,()),())))
def wW(g:Q_g)(a:(List d7))(b:l3):Option Jm:=
 ((R9 g b).bind fun c=>(cond (!(decide (c.1.1.Ks=8))) ((Dy g b 5).bind fun d=>fV g a d.1.1) (fV g a b)))
def vX(g:Q_g)(a:(List d7))(b:l3):Option Jm:=
 ((Ae g b).bind fun c=>(cond c.1.1 (some ((([]:List d7),b.F,()),())) (some ((a,(y6.mk 0 0 0),()),()))))
def cN(g:Q_g)(a:(b5Y)):Option Jm:=
 ((dH g a).bind fun b=>(cond (!(decide (b.1.2.1.Code=0))) (some ((([]:List d7),b.1.2.1,()),())) ((a06 g (l3.mk b.1.1 0 0 (y6.mk 0 0 0))).bind fun c=>((yP g c.1.1 c.1.2.1).bind fun d=>(some ((d.1.1,d.1.2.1,()),()))))))
def eR(g:Q_g)(a:(List d7))(b:Int):Option RT2:=
 (cond (decide (b≥(a.length:Int))) (some (((-1),()),())) ((i6 a b).bind fun c=>(cond (decide (c.Cs<0)) (some (((-1),()),())) ((i6 a b).bind fun d=>(cond (decide (d.Cs>(w64 ((w64 ((a.length:Int)-1))-b)))) (some (((-1),()),())) ((i6 a b).bind fun e=>rX g a b e (w64 (b+1))))))))
def Zw(g:Q_g)(a:(List d7))(b:Int)(c:d7)(d:Int):Option RT2:=
 (cond (decide (d≥0)) (cond (decide (d<(w64 ((w64 (b+1))+c.Cs)))) ((Rb g a d).bind fun e=>rX g a b c e.1.1) (AC g b c d)) (AC g b c d))
def Wi(g:Q_g)(a:Int)(b:d7)(c:Int):Option RT2:=
 (cond (!(decide (c=(w64 ((w64 (a+1))+b.Cs))))) (some (((-1),()),())) (some (((w64 ((w64 (a+1))+b.Cs)),()),())))
def nQ(g:Q_g)(a:(List d7)):Option RT0:=
 (cond (decide ((a.length:Int)>0)) ((Rb g a 0).bind fun b=>(some (((decide (b.1.1=(a.length:Int))),()),()))) (some ((false,()),())))
def tH(g:Q_g)(a:(b5Y))(b:Int):Option RT0:=
 (cond (decide ((a.length:Int)=0)) (some ((false,()),())) ((i6 a 0).bind fun c=>(cond (decide ((c.toNat:Int)≥48)) ((i6 a 0).bind fun d=>(cond (decide ((d.toNat:Int)≤57)) (some ((false,()),())) (rS g a b))) (rS g a b))))
def oJ(g:Q_g)(a:(b5Y))(b:Int):Option RT0:=
 ((Wd g a 0).bind fun c=>(cond (decide (c.1.2.2.1=0)) (cond (decide (c.1.2.1=(a.length:Int))) (some (((decide (c.1.1.Ks=b)),()),())) (some ((false,()),()))) (some ((false,()),()))))
def wC(g:Q_g)(a:(b5Y)):Option RT0:=
 ((pA g a 2).bind fun b=>(some ((b.1.1,()),())))
def fD(g:Q_g)(a:(b5Y)):Option RT0:=
 ((pA g a 1).bind fun b=>(some ((b.1.1,()),())))
def jL(g:Q_g)(a:d7):Option RT0:=
 (cond (decide (a.Ks=2)) (wO g a) (cond (decide (a.Ks=19)) (wO g a) (cond (decide (a.Ks=3)) (Gm g a) (cond (decide (a.Ks=5)) (Gm g a) (cond (decide (a.Ks=7)) (Gm g a) (cond (decide (a.Ks=26)) (Gm g a) (cond (decide (a.Ks=27)) (Gm g a) (cond (decide (a.Ks=29)) (Gm g a) (cond (decide (a.Ks=4)) ((fJ g a.Gs).bind fun b=>(some ((b.1.1,()),()))) (cond (decide (a.Ks=23)) (some (((decide (a.Ns=0)),()),())) (cond (!(decide (a.Gs=([]:b5Y)))) (some ((false,()),())) (cond (decide (a.Ks=21)) (some (((decide (a.Ns≥0)),()),())) (cond (decide (a.Ks=22)) (cond (decide (a.Ns≥0)) (some (((decide (a.Ns<8388608)),()),())) (some ((false,()),()))) (cond (decide (a.Ks=24)) (cond (decide (a.Ns=0)) (some ((true,()),())) (some (((decide (a.Ns=1)),()),()))) (cond (decide (a.Ks=30)) (cond (decide (a.Ns=12)) (some ((true,()),())) (some (((decide (a.Ns=13)),()),()))) (cond (decide (a.Ks=31)) (cond (decide (a.Ns≥1)) (cond (decide (a.Ns≤11)) (some ((true,()),())) (cond (decide (a.Ns=14)) (some ((true,()),())) (some (((decide (a.Ns=15)),()),())))) (cond (decide (a.Ns=14)) (some ((true,()),())) (some (((decide (a.Ns=15)),()),())))) (some (((decide (a.Ns=0)),()),()))))))))))))))))))
def vT(g:Q_g)(a:d7):Option RT0:=
 ((FR g a.Gs).bind fun b=>(cond b.1.1 (some (((decide (a.Ns=0)),()),())) (some ((false,()),()))))
def wV(g:Q_g)(a:d7):Option RT0:=
 ((fJ g a.Gs).bind fun b=>(cond b.1.1 (some (((decide (a.Ns=0)),()),())) (some ((false,()),()))))
def dB(g:Q_g)(a:(List d7))(b:Int):Option RT3:=
 bU g a b (w64 (b+1)) ([]:List Int)
def bF(g:Q_g)(a:(List d7))(b:Int)(c:Int)(d:(List Int)):Option RT3:=
 ((i6 a b).bind fun e=>(cond (decide (c<(w64 ((w64 (b+1))+e.Cs)))) ((A4 8 d ([c]:List Int)).bind fun f=>((i6 a c).bind fun h=>bU g a b (w64 ((w64 (c+1))+h.Cs)) f)) (RZ g d)))
def gO(g:Q_g)(a:(List Int)):Option RT3:=
 (some ((a,()),()))
def qZ(g:Q_g)(a:d7):Option RT2:=
 (cond (decide (a.Ks=14)) (some ((48,()),())) (cond (decide (a.Ks≥15)) (cond (decide (a.Ks≤20)) (some ((116,()),())) (qV g a)) (qV g a)))
def bR(g:Q_g)(a:d7):Option RT2:=
 (cond (decide (a.Ks=6)) (some ((98,()),())) (cond (decide (a.Ks=5)) (some ((112,()),())) (cond (decide (a.Ks=3)) (some ((102,()),())) (cond (decide (a.Ks=2)) (some ((100,()),())) (cond (decide (a.Ks=4)) (some ((100,()),())) (LL g))))))
def kK(g:Q_g)(a:d7):Option RT2:=
 (cond (decide (a.Ks≥7)) (cond (decide (a.Ks≤13)) (some ((115,()),())) (nG g a)) (nG g a))
def qT(g:Q_g)(a:d7):Option RT2:=
 (cond (decide (a.Ks≥21)) (cond (decide (a.Ks≤32)) (some ((101,()),())) (rQ g a)) (rQ g a))
def rT(g:Q_g):Option RT2:=
 (some ((45,()),()))
def wD(g:Q_g)(a:(b5Y))(b:Int):Option RT0:=
 dL g a b 0
def Tm(g:Q_g)(a:(b5Y))(b:Int)(c:Int):Option RT0:=
 (cond (decide (c<(a.length:Int))) ((i6 a c).bind fun d=>(cond (!(decide ((d.toNat:Int)=b))) (some ((false,()),())) (dL g a b (w64 (c+1))))) (SE g))
def pM(g:Q_g):Option RT0:=
 (some ((true,()),()))
def mJ(g:Q_g)(a:(List d7))(b:Int):Option RT0:=
 ((U7 g a b).bind fun c=>Xj g a b c 0 ([]:List Int))
def aJ(g:Q_g)(a:(List d7))(b:Int)(c:RT3)(d:Int)(e:(List Int)):Option RT0:=
 (cond (decide (d<(c.1.1.length:Int))) ((i6 c.1.1 d).bind fun f=>((c.1.1[(Int.toNat d)]?).bind fun h=>((i6 a h).bind fun j=>((zJ g j).bind fun k=>((A4 1 e ([k.1.1]:List Int)).bind fun l=>Xj g a b c (w64 (d+1)) l))))) (DT g a b c e))
def dU(g:Q_g)(a:(List d7))(b:Int)(c:RT3)(d:(List Int)):Option RT0:=
 ((Xm d).bind fun _=>(cond (decide ((c.1.1.length:Int)>0)) ((i6 c.1.1 0).bind fun e=>((c.1.1[(Int.toNat 0)]?).bind fun f=>((i6 a f).bind fun h=>vQ g a b d h))) (vQ g a b d (d7.mk 0 0 0 0 0 ([]:b5Y)))))
def vA(g:Q_g)(a:(List d7))(b:Int)(c:(List Int))(d:d7):Option RT0:=
 ((i6 a b).bind fun e=>(cond (decide (e.Ks=1)) (cond (decide (b=0)) ((Lv g (y7 c) 100).bind fun f=>(some ((f.1.1,()),()))) (some ((false,()),()))) (cond (decide (e.Ks=2)) ((Lv g (y7 c) 102).bind fun h=>(some ((h.1.1,()),()))) (cond (decide (e.Ks=3)) (some (((decide ((y7 c)=([116]:b5Y))),()),())) (cond (decide (e.Ks=5)) (some (((decide ((y7 c)=([116]:b5Y))),()),())) (cond (decide (e.Ks=20)) (some (((decide ((y7 c)=([116]:b5Y))),()),())) (cond (decide (e.Ks=4)) (cond (decide (((y7 c).length:Int)≥2)) ((i6 a b).bind fun j=>(cond (decide ((w64 (((y7 c).length:Int)-2))=j.Ns)) ((okP (B9 (0:Int) (w64 (((y7 c).length:Int)-2)) ((y7 c).length:Int))).bind fun _=>((Lv g (x8 (y7 c) (0:Int) (w64 (((y7 c).length:Int)-2))) 112).bind fun k=>(cond k.1.1 ((i6 (y7 c) (w64 (((y7 c).length:Int)-2))).bind fun l=>(cond (decide ((l.toNat:Int)=116)) ((i6 (y7 c) (w64 (((y7 c).length:Int)-1))).bind fun m=>(some (((decide ((m.toNat:Int)=98)),()),()))) ((i6 (y7 c) (w64 (((y7 c).length:Int)-2))).bind fun n=>(cond (decide ((n.toNat:Int)=48)) ((i6 (y7 c) (w64 (((y7 c).length:Int)-1))).bind fun m=>(some (((decide ((m.toNat:Int)=98)),()),()))) (some ((false,()),())))))) (some ((false,()),()))))) (some ((false,()),())))) (some ((false,()),()))) (cond (decide (e.Ks=6)) ((Lv g (y7 c) 115).bind fun o=>(some ((o.1.1,()),()))) (cond (decide (e.Ks=7)) (some (((decide ((y7 c)=([116,101]:b5Y))),()),())) (cond (decide (e.Ks=8)) (cond (decide ((y7 c)=([101,101]:b5Y))) (cond (decide (d.Ks=26)) (some ((true,()),())) (cond (decide (d.Ks=28)) (some ((true,()),())) (some (((decide (d.Ks=29)),()),())))) (some ((false,()),()))) (cond (decide (e.Ks=9)) (cond (decide ((y7 c)=([101,98]:b5Y))) (some ((true,()),())) (some (((decide ((y7 c)=([101,98,98]:b5Y))),()),()))) (cond (decide (e.Ks=10)) (some (((decide ((y7 c)=([101,98]:b5Y))),()),())) (cond (decide (e.Ks=11)) (cond (decide ((y7 c)=([]:b5Y))) (some ((true,()),())) (some (((decide ((y7 c)=([101]:b5Y))),()),()))) (cond (decide (e.Ks=12)) (some (((decide ((y7 c)=([101]:b5Y))),()),())) (cond (decide (e.Ks=29)) (some (((decide ((y7 c)=([101]:b5Y))),()),())) (cond (decide (e.Ks=30)) (some (((decide ((y7 c)=([101]:b5Y))),()),())) (cond (decide (e.Ks=13)) (cond (decide ((y7 c)=([101]:b5Y))) (some (((decide (d.Ks=27)),()),())) (some ((false,()),()))) (cond (decide (e.Ks=27)) ((Lv g (y7 c) 101).bind fun p=>(some ((p.1.1,()),()))) (cond (decide (e.Ks=28)) (some (((decide ((y7 c)=([101,101]:b5Y))),()),())) (cond (decide (e.Ks=31)) (some (((decide ((y7 c)=([101,101]:b5Y))),()),())) (cond (decide (e.Ks=32)) (cond (decide ((y7 c)=([116]:b5Y))) (cond (decide (d.Ks=19)) (some ((true,()),())) (cond (decide ((y7 c)=([116,101]:b5Y))) (some (((decide (d.Ks=20)),()),())) (some ((false,()),())))) (cond (decide ((y7 c)=([116,101]:b5Y))) (some (((decide (d.Ks=20)),()),())) (some ((false,()),())))) (cond (decide ((y7 c)=([]:b5Y))) ((i6 a b).bind fun q=>(cond (decide (q.Ks≥14)) ((i6 a b).bind fun s=>(some (((decide (s.Ks≤26)),()),()))) (some ((false,()),())))) (some ((false,()),()))))))))))))))))))))))))
def tC(g:Q_g)(a:(List d7)):Option RT0:=
 ((oV g a).bind fun b=>(cond (!b.1.1) (some ((false,()),())) ((i6 a 0).bind fun c=>(cond (!(decide (c.Ks=1))) (some ((false,()),())) (cG g a 0)))))
def Vf(g:Q_g)(a:(List d7))(b:Int):Option RT0:=
 (cond (decide (b<(a.length:Int))) ((i6 a b).bind fun c=>((CR g c).bind fun d=>(cond (!d.1.1) (some ((false,()),())) ((yJ g a b).bind fun e=>(cond (!e.1.1) (some ((false,()),())) (cG g a (w64 (b+1)))))))) (RE g))
def gV(g:Q_g):Option RT0:=
 (some ((true,()),()))
def yW(g:Q_g)(a:d9):Option RT0:=
 (some (((!(decide (a.F.Code=0))),()),()))
def kP(g:Q_g)(a:d9)(b:(b5Y)):Option RT2:=
 fT g b a 0
def Sk(g:Q_g)(a:(b5Y))(b:d9)(c:Int):Option RT2:=
 (cond (decide (c<(b.P.As.length:Int))) ((i6 b.P.As c).bind fun d=>(cond (decide (d.Js=a)) (some ((c,()),())) (fT g a b (w64 (c+1))))) (MH g))
def lN(g:Q_g):Option RT2:=
 (some (((-1),()),()))
def xG(g:Q_g)(a:(List d7))(b:Int):Option RT3:=
 ((U7 g a 0).bind fun c=>aO g a b c 0 ([]:List Int))
def Ya(g:Q_g)(a:(List d7))(b:Int)(c:RT3)(d:Int)(e:(List Int)):Option RT3:=
 (cond (decide (d<(c.1.1.length:Int))) ((i6 c.1.1 d).bind fun f=>((c.1.1[(Int.toNat d)]?).bind fun h=>((i6 a h).bind fun j=>(cond (decide (j.Ks=b)) ((i6 c.1.1 d).bind fun k=>((c.1.1[(Int.toNat d)]?).bind fun l=>((A4 8 e ([l]:List Int)).bind fun m=>aO g a b c (w64 (d+1)) m))) (aO g a b c (w64 (d+1)) e))))) (WK g e))
def hY(g:Q_g)(a:(List Int)):Option RT3:=
 (some ((a,()),()))
def fM(g:Q_g)(a:(List d7))(b:(List Int))(c:(b5Y)):Option RT0:=
 kL g a b c 0
def Vg(g:Q_g)(a:(List d7))(b:(List Int))(c:(b5Y))(d:Int):Option RT0:=
 (cond (decide (d<(b.length:Int))) ((i6 b d).bind fun e=>((i6 a e).bind fun f=>(cond (decide (f.Gs=c)) (some ((true,()),())) (kL g a b c (w64 (d+1)))))) (NL g))
def kJ(g:Q_g):Option RT0:=
 (some ((false,()),()))
def jY(g:Q_g)(a:Int):Option Jc:=
 kD g a 0 ([(r9.mk 0 0),(r9.mk 1 0),(r9.mk 2 0),(r9.mk 3 0),(r9.mk 4 0),(r9.mk 5 0)]:List r9)
def Ww(g:Q_g)(a:Int)(b:Int)(c:(List r9)):Option Jc:=
 (cond (decide (b<a)) (cond (decide (b<100)) ((A4 16 c ([(r9.mk 6 b)]:List r9)).bind fun d=>kD g a (w64 (b+1)) d) (GN g c)) (GN g c))
def gC(g:Q_g)(a:(List r9)):Option Jc:=
 (some ((a,()),()))
def Jn(g:Q_g)(a:d9)(b:Int)(c:l4):b5I:=
 ((A4 24 ([]:List l4) a.P.Ms).bind fun d=>((i6 d b).bind fun e=>((d[(Int.toNat b)]?).bind fun f=>((G4 d (Int.toNat b) c).bind fun h=>(some (((d9.mk (s9.mk a.P.No h a.P.To a.P.Rs a.P.Id a.P.As a.P.Ss a.P.Vars a.P.Es) a.Rs a.F),()),()))))))
def iM(g:Q_g)(a:(List r9))(b:Int):b5V:=
 ((A4 16 ([]:List r9) a).bind fun c=>(cond (decide (b<1)) (some ((c,0,()),())) (cond (decide (b≥(a.length:Int))) (some ((c,0,()),())) (cond (decide (b=5)) (some ((c,0,()),())) (Wl g a b 0 c)))))
def Yj(g:Q_g)(a:(List r9))(b:Int)(c:Int)(d:(List r9)):b5V:=
 (cond (decide (c<(a.length:Int))) ((i6 a c).bind fun e=>(cond (decide (e.Ks=7)) ((i6 a c).bind fun f=>(cond (decide (f.Of=b)) (some ((d,c,()),())) (Wl g a b (w64 (c+1)) d))) (Wl g a b (w64 (c+1)) d))) (RP g a b d))
def lS(g:Q_g)(a:(List r9))(b:Int)(c:(List r9)):b5V:=
 ((A4 16 c ([(r9.mk 7 b)]:List r9)).bind fun d=>(some ((d,(a.length:Int),()),())))
def xH(g:Q_g)(a:(List d7)):Option RT0:=
 ((oV g a).bind fun b=>(cond (!b.1.1) (some ((false,()),())) ((A4 56 ([(d7.mk 1 0 0 (w64 ((a.length:Int)+2)) 0 ([]:b5Y)),(d7.mk 2 0 0 (w64 ((a.length:Int)+1)) 0 ([82]:b5Y)),(d7.mk 3 0 0 (a.length:Int) 0 ([102]:b5Y))]:List d7) a).bind fun c=>((lB g c).bind fun d=>(some ((d.1.1,()),()))))))
def oL(g:Q_g)(a:(List r9))(b:(List (b5Y)))(c:d7):Option RT2:=
 (cond (decide (c.Ks<19)) (some (((w64 ((w64 c.Ks)-14)),()),())) (pR g a b 0 c))
def Tj(g:Q_g)(a:(List r9))(b:(List (b5Y)))(c:Int)(d:d7):Option RT2:=
 (cond (decide (c<(b.length:Int))) ((i6 b c).bind fun e=>(cond (decide (e=d.Gs)) (cond (decide ((w64 (c+6))<(a.length:Int))) ((i6 a (w64 (c+6))).bind fun f=>(cond (decide (f.Ks=6)) (some (((w64 (c+6)),()),())) (some ((0,()),())))) (some ((0,()),()))) (pR g a b (w64 (c+1)) d))) (WD g))
def cC(g:Q_g):Option RT2:=
 (some ((0,()),()))
def sP(g:Q_g)(a:(List r9))(b:(List (b5Y)))(c:(List d7)):b5V:=
 ((A4 16 ([]:List r9) a).bind fun d=>((EO g c).bind fun e=>(cond (!e.1.1) (some ((d,0,()),())) ((i6 c (w64 ((c.length:Int)-1))).bind fun f=>((CT g a b f).bind fun h=>(cond (decide (h.1.1=0)) (some ((d,0,()),())) (JN g c h.1.1 0 d)))))))
def qL(g:Q_g)(a:(List d7))(b:Int)(c:Int)(d:(List r9)):b5V:=
 (cond (decide (c<(w64 ((a.length:Int)-1)))) ((Kv g d b).bind fun e=>JN g a e.1.2.1 (w64 (c+1)) e.1.1) (SL g b d))
def bS(g:Q_g)(a:Int)(b:(List r9)):b5V:=
 (some ((b,a,()),()))
def sT(g:Q_g)(a:d9)(b:Int)(c:l4):b5I:=
 ((A4 24 ([]:List l4) a.P.Ms).bind fun d=>((i6 d b).bind fun e=>((d[(Int.toNat b)]?).bind fun f=>((G4 d (Int.toNat b) c).bind fun h=>(some (((d9.mk (s9.mk a.P.No h a.P.To a.P.Rs a.P.Id a.P.As a.P.Ss a.P.Vars a.P.Es) a.Rs a.F),()),()))))))
def uZ(g:Q_g)(a:d9)(b:Int)(c:Int):b5I:=
 ((N2 g a).bind fun d=>(cond (!d.1.1) ((i6 a.P.No c).bind fun e=>((i6 a.P.No c).bind fun f=>(some (((d9.mk a.P a.Rs (y6.mk b e.Ls f.If)),()),())))) (some ((a,()),()))))
def kT(g:Q_g)(a:d9)(b:Int):Option N5:=
 ((i6 a.P.No b).bind fun c=>(cond (decide (c.Ks=14)) (some ((0,a,()),())) ((i6 a.P.No b).bind fun d=>(cond (decide (d.Ks=20)) ((rY g a (w64 (b+1))).bind fun e=>((N2 g e.1.2.1).bind fun f=>(cond f.1.1 (some ((0,e.1.2.1,()),())) ((Kv g e.1.2.1.P.To e.1.1).bind fun h=>((We g (d9.mk (s9.mk e.1.2.1.P.No e.1.2.1.P.Ms h.1.1 e.1.2.1.P.Rs e.1.2.1.P.Id e.1.2.1.P.As e.1.2.1.P.Ss e.1.2.1.P.Vars e.1.2.1.P.Es) e.1.2.1.Rs e.1.2.1.F) b (l4.mk h.1.2.1 0 0)).bind fun j=>(some ((h.1.2.1,j.1.1,()),()))))))) ((okP (B9 b (w64 (b+1)) (a.P.No.length:Int))).bind fun _=>((Pk g a.P.To a.Rs (x8 a.P.No b (w64 (b+1)))).bind fun k=>(cond (decide (k.1.2.1=0)) ((Xi g a 8 b).bind fun l=>(some ((0,l.1.1,()),()))) ((We g a b (l4.mk k.1.2.1 0 0)).bind fun m=>(some ((k.1.2.1,m.1.1,()),()))))))))))
def cV(g:Q_g)(a:d9)(b:Int)(c:Int):b5I:=
 ((N2 g a).bind fun d=>(cond (!d.1.1) ((i6 a.P.No c).bind fun e=>((i6 a.P.No c).bind fun f=>(some (((d9.mk a.P a.Rs (y6.mk b e.Ls f.If)),()),())))) (some ((a,()),()))))
def jC(g:Q_g)(a:d9):b5I:=
 ((bW g a.P.No 2).bind fun b=>Sv g a b 0 a)
def bD(g:Q_g)(a:d9)(b:RT3)(c:Int)(d:d9):b5I:=
 (cond (decide (c<(b.1.1.length:Int))) (cond (decide (c≥100)) ((i6 b.1.1 c).bind fun e=>((oG g d 13 e).bind fun f=>qS g a b c f.1.1)) (qS g a b c d)) (Sw g a b d))
def jW(g:Q_g)(a:d9)(b:RT3)(c:Int)(d:d9):b5I:=
 ((i6 b.1.1 c).bind fun e=>((Fy g d e (l4.mk 0 c 0)).bind fun f=>((i6 b.1.1 c).bind fun h=>((i6 a.P.No h).bind fun j=>((A4 16 f.1.1.Rs ([j.Gs]:List (b5Y))).bind fun k=>VQ g a b c f k)))))
def eY(g:Q_g)(a:d9)(b:RT3)(c:Int)(d:d9):b5I:=
 ((okP (B9 (0:Int) c (b.1.1.length:Int))).bind fun _=>((i6 b.1.1 c).bind fun e=>((i6 a.P.No e).bind fun f=>((Qg g a.P.No (x8 b.1.1 (0:Int) c) f.Gs).bind fun h=>(cond h.1.1 ((i6 b.1.1 c).bind fun j=>((oG g d 7 j).bind fun k=>vI g a b c k.1.1)) (vI g a b c d))))))
def lU(g:Q_g)(a:d9)(b:RT3)(c:d9):b5I:=
 ((DC g (b.1.1.length:Int)).bind fun d=>jG g a b 0 (d9.mk (s9.mk c.P.No c.P.Ms d.1.1 c.P.Rs c.P.Id c.P.As c.P.Ss c.P.Vars c.P.Es) c.Rs c.F))
def dS(g:Q_g)(a:d9)(b:RT3)(c:Int)(d:p9)(e:(List (b5Y))):b5I:=
 Sv g a b (w64 (c+1)) (d9.mk d.1.1.P e d.1.1.F)
def Ye(g:Q_g)(a:d9)(b:RT3)(c:Int)(d:d9):b5I:=
 (cond (decide (c<(b.1.1.length:Int))) ((i6 b.1.1 c).bind fun e=>((U7 g a.P.No e).bind fun f=>Nh g a b c f (d.P.Id.length:Int) c 0 d)) (ZL g d))
def Vv(g:Q_g)(a:d9)(b:RT3)(c:Int)(d:RT3)(e:Int)(f:Int)(h:Int)(j:d9):b5I:=
 (cond (decide (h<(d.1.1.length:Int))) (cond (decide (h≥100)) ((i6 d.1.1 h).bind fun k=>((Xi g j 13 k).bind fun l=>Wt g a b c d e h f l.1.1)) (Wt g a b c d e h f j)) (Wj g a b c d e f j))
def oC(g:Q_g)(a:d9):b5I:=
 (some ((a,()),()))
def jE(g:Q_g)(a:d9)(b:RT3)(c:Int)(d:RT3)(e:Int)(f:Int)(h:Int)(j:d9):b5I:=
 ((N2 g j).bind fun k=>(cond k.1.1 (some ((j,()),())) ((i6 d.1.1 f).bind fun l=>((rY g j (w64 (l+1))).bind fun m=>((i6 d.1.1 f).bind fun n=>((We g m.1.2.1 n (l4.mk m.1.1 0 0)).bind fun o=>((i6 d.1.1 f).bind fun p=>((i6 a.P.No p).bind fun q=>((A4 24 o.1.1.P.Id ([(Q1.mk q.Gs m.1.1)]:List Q1)).bind fun s=>WM g a b c d e h f o s)))))))))
def iK(g:Q_g)(a:d9)(b:RT3)(c:Int)(d:RT3)(e:Int)(f:Int)(h:Int)(j:d9):b5I:=
 ((okP (B9 (0:Int) f (d.1.1.length:Int))).bind fun _=>((i6 d.1.1 f).bind fun k=>((i6 a.P.No k).bind fun l=>((Qg g a.P.No (x8 d.1.1 (0:Int) f) l.Gs).bind fun m=>(cond m.1.1 ((i6 d.1.1 f).bind fun n=>((Xi g j 7 n).bind fun o=>Zl g a b c d e f h o.1.1)) (Zl g a b c d e f h j))))))
def qN(g:Q_g)(a:d9)(b:RT3)(c:Int)(d:RT3)(e:Int)(f:Int)(h:d9):b5I:=
 ((i6 b.1.1 c).bind fun j=>((i6 a.P.No j).bind fun k=>((A4 32 h.P.Rs ([(N1.mk k.Gs e (d.1.1.length:Int))]:List N1)).bind fun l=>XF g a b f h l)))
def cY(g:Q_g)(a:d9)(b:RT3)(c:Int)(d:RT3)(e:Int)(f:Int)(h:Int)(j:p9)(k:(List Q1)):b5I:=
 Nh g a b c d e f (w64 (h+1)) (d9.mk (s9.mk j.1.1.P.No j.1.1.P.Ms j.1.1.P.To j.1.1.P.Rs k j.1.1.P.As j.1.1.P.Ss j.1.1.P.Vars j.1.1.P.Es) j.1.1.Rs j.1.1.F)
def sU(g:Q_g)(a:d9)(b:RT3)(c:Int)(d:d9)(e:(List N1)):b5I:=
 jG g a b (w64 (c+1)) (d9.mk (s9.mk d.P.No d.P.Ms d.P.To e d.P.Id d.P.As d.P.Ss d.P.Vars d.P.Es) d.Rs d.F)
def pY(g:Q_g)(a:(b5Y)):Option RT2:=
 rL g a 0
def Xt(g:Q_g)(a:(b5Y))(b:Int):Option RT2:=
 (cond (decide (b<(([[],[108,101,110],[116,101,120,116],[114,101],[105,109],[112,97,105,114],[99,104,114],[114,101,97,100],[114,97,110,100]]:List (b5Y)).length:Int))) ((i6 ([[],[108,101,110],[116,101,120,116],[114,101],[105,109],[112,97,105,114],[99,104,114],[114,101,97,100],[114,97,110,100]]:List (b5Y)) b).bind fun c=>((([[],[108,101,110],[116,101,120,116],[114,101],[105,109],[112,97,105,114],[99,104,114],[114,101,97,100],[114,97,110,100]]:List (b5Y))[(Int.toNat b)]?).bind fun d=>(cond (decide (d=a)) (some ((b,()),())) (rL g a (w64 (b+1)))))) (OO g))
def nW(g:Q_g):Option RT2:=
 (some ((0,()),()))
def mU(g:Q_g)(a:d9)(b:Int)(c:l4):b5I:=
 ((A4 24 ([]:List l4) a.P.Ms).bind fun d=>((i6 d b).bind fun e=>((d[(Int.toNat b)]?).bind fun f=>((G4 d (Int.toNat b) c).bind fun h=>(some (((d9.mk (s9.mk a.P.No h a.P.To a.P.Rs a.P.Id a.P.As a.P.Ss a.P.Vars a.P.Es) a.Rs a.F),()),()))))))
def fU(g:Q_g)(a:d9)(b:Int)(c:Int):b5I:=
 ((N2 g a).bind fun d=>(cond (!d.1.1) ((i6 a.P.No c).bind fun e=>((i6 a.P.No c).bind fun f=>(some (((d9.mk a.P a.Rs (y6.mk b e.Ls f.If)),()),())))) (some ((a,()),()))))
def vG(g:Q_g)(a:d9)(b:Int):Option N5:=
 ((i6 a.P.No b).bind fun c=>(cond (decide (c.Ks=14)) (some ((0,a,()),())) ((i6 a.P.No b).bind fun d=>(cond (decide (d.Ks=20)) ((bI g a (w64 (b+1))).bind fun e=>((N2 g e.1.2.1).bind fun f=>(cond f.1.1 (some ((0,e.1.2.1,()),())) ((Kv g e.1.2.1.P.To e.1.1).bind fun h=>((Pe g (d9.mk (s9.mk e.1.2.1.P.No e.1.2.1.P.Ms h.1.1 e.1.2.1.P.Rs e.1.2.1.P.Id e.1.2.1.P.As e.1.2.1.P.Ss e.1.2.1.P.Vars e.1.2.1.P.Es) e.1.2.1.Rs e.1.2.1.F) b (l4.mk h.1.2.1 0 0)).bind fun j=>(some ((h.1.2.1,j.1.1,()),()))))))) ((okP (B9 b (w64 (b+1)) (a.P.No.length:Int))).bind fun _=>((Pk g a.P.To a.Rs (x8 a.P.No b (w64 (b+1)))).bind fun k=>(cond (decide (k.1.2.1=0)) ((Ha g a 8 b).bind fun l=>(some ((0,l.1.1,()),()))) ((Pe g a b (l4.mk k.1.2.1 0 0)).bind fun m=>(some ((k.1.2.1,m.1.1,()),()))))))))))
def jF(g:Q_g)(a:d9):b5I:=
 ((bW g a.P.No 4).bind fun b=>Te g a b 0 a)
def Yy(g:Q_g)(a:d9)(b:RT3)(c:Int)(d:d9):b5I:=
 (cond (decide (c<(b.1.1.length:Int))) ((i6 b.1.1 c).bind fun e=>(cond (decide (c≥100)) ((Ha g d 13 e).bind fun f=>jP g a b c e f.1.1) (jP g a b c e d))) (XJ g d))
def Tg(g:Q_g)(a:d9)(b:RT3)(c:Int)(d:Int)(e:RT3)(f:Int)(h:Int)(j:d9):b5I:=
 (cond (decide (f<(w64 ((e.1.1.length:Int)-2)))) (cond (decide (f≥20)) ((i6 e.1.1 f).bind fun k=>((Ha g j 13 k).bind fun l=>Wo g a b c d e f h l.1.1)) (Wo g a b c d e f h j)) (Jk g a b c d e h j))
def fK(g:Q_g)(a:d9)(b:RT3)(c:Int)(d:Int)(e:Int)(f:d9):b5I:=
 ((Ha g f 7 d).bind fun h=>vW g a b c d e h.1.1)
def cO(g:Q_g)(a:d9):b5I:=
 (some ((a,()),()))
def uA(g:Q_g)(a:d9)(b:RT3)(c:Int)(d:Int)(e:RT3)(f:Int)(h:Int)(j:d9):b5I:=
 ((N2 g j).bind fun k=>(cond k.1.1 (some ((j,()),())) ((i6 e.1.1 f).bind fun l=>((bI g j (w64 (l+1))).bind fun m=>((i6 e.1.1 f).bind fun n=>((Pe g m.1.2.1 n (l4.mk m.1.1 0 0)).bind fun o=>MF g a b c d e f h o))))))
def nL(g:Q_g)(a:d9)(b:RT3)(c:Int)(d:Int)(e:RT3)(f:Int)(h:Int)(j:d9):b5I:=
 ((okP (B9 (0:Int) f (e.1.1.length:Int))).bind fun _=>((i6 e.1.1 f).bind fun k=>((i6 a.P.No k).bind fun l=>((Qg g a.P.No (x8 e.1.1 (0:Int) f) l.Gs).bind fun m=>(cond m.1.1 ((i6 e.1.1 f).bind fun n=>((Ha g j 7 n).bind fun o=>Zb g a b c d e f h o.1.1)) (Zb g a b c d e f h j))))))
def dZ(g:Q_g)(a:d9)(b:RT3)(c:Int)(d:Int)(e:RT3)(f:Int)(h:d9):b5I:=
 ((N2 g h).bind fun j=>(cond j.1.1 (some ((h,()),())) ((i6 e.1.1 (w64 ((e.1.1.length:Int)-2))).bind fun k=>((bI g h k).bind fun l=>((Pe g l.1.2.1 d (l4.mk l.1.1 c 0)).bind fun m=>((i6 a.P.No d).bind fun n=>((A4 72 m.1.1.P.As ([(t9.mk n.Gs d (w64 ((e.1.1.length:Int)-2)) l.1.1 0 0 0 0)]:List t9)).bind fun o=>RX g a b f m o)))))))
def gE(g:Q_g)(a:d9)(b:RT3)(c:Int)(d:Int)(e:Int)(f:d9):b5I:=
 ((U7 g a.P.No d).bind fun h=>Pt g a b c d h 0 e f)
def iR(g:Q_g)(a:d9)(b:RT3)(c:Int)(d:Int)(e:RT3)(f:Int)(h:Int)(j:p9):b5I:=
 Pt g a b c d e (w64 (f+1)) h j.1.1
def uC(g:Q_g)(a:d9)(b:RT3)(c:Int)(d:p9)(e:(List t9)):b5I:=
 Te g a b (w64 (c+1)) (d9.mk (s9.mk d.1.1.P.No d.1.1.P.Ms d.1.1.P.To d.1.1.P.Rs d.1.1.P.Id e d.1.1.P.Ss d.1.1.P.Vars d.1.1.P.Es) d.1.1.Rs d.1.1.F)
def sR(g:Q_g)(a:d9)(b:RT3)(c:Int)(d:Int)(e:d9):b5I:=
 ((okP (B9 (0:Int) c (b.1.1.length:Int))).bind fun _=>((i6 a.P.No d).bind fun f=>((Qg g a.P.No (x8 b.1.1 (0:Int) c) f.Gs).bind fun h=>(cond h.1.1 (pC g a b c d c e) ((i6 a.P.No d).bind fun j=>((sN g j.Gs).bind fun k=>(cond (decide (k.1.1>0)) (pC g a b c d c e) (vW g a b c d c e))))))))
def pV(g:Q_g)(a:d9)(b:Int)(c:(List w7))(d:(b5Y))(e:Int)(f:Int)(h:Int):b5T:=
 ((i6 a.P.As b).bind fun j=>((A4 40 ([]:List w7) c).bind fun k=>((A4 40 k ([(w7.mk d j.Ss f (a.P.Vars.length:Int))]:List w7)).bind fun l=>((A4 48 a.P.Vars ([(I8.mk b d j.Ss h 0)]:List I8)).bind fun m=>((A4 8 a.P.Ss ([e]:List Int)).bind fun n=>((A4 72 ([]:List t9) a.P.As).bind fun o=>((i6 o b).bind fun p=>((o[(Int.toNat b)]?).bind fun q=>((o[(Int.toNat b)]?).bind fun s=>((G4 o (Int.toNat b) (t9.mk s.Js s.Hs s.Ps s.By s.At (w64 (j.Ss+1)) s.Us s.Es)).bind fun t=>(some ((l,(d9.mk (s9.mk a.P.No a.P.Ms a.P.To a.P.Rs a.P.Id t n m a.P.Es) a.Rs a.F),()),()))))))))))))
def Jv(g:Q_g)(a:d9)(b:Int)(c:Int):b5I:=
 ((N2 g a).bind fun d=>(cond (!d.1.1) ((i6 a.P.No c).bind fun e=>((i6 a.P.No c).bind fun f=>(some (((d9.mk a.P a.Rs (y6.mk b e.Ls f.If)),()),())))) (some ((a,()),()))))
def jR(g:Q_g)(a:d9)(b:Int)(c:l4):b5I:=
 ((A4 24 ([]:List l4) a.P.Ms).bind fun d=>((i6 d b).bind fun e=>((d[(Int.toNat b)]?).bind fun f=>((G4 d (Int.toNat b) c).bind fun h=>(some (((d9.mk (s9.mk a.P.No h a.P.To a.P.Rs a.P.Id a.P.As a.P.Ss a.P.Vars a.P.Es) a.Rs a.F),()),()))))))
def pB(g:Q_g)(a:d9)(b:Int):Option N5:=
 ((i6 a.P.No b).bind fun c=>(cond (decide (c.Ks=14)) (some ((0,a,()),())) ((i6 a.P.No b).bind fun d=>(cond (decide (d.Ks=20)) ((Wm g a (w64 (b+1))).bind fun e=>((N2 g e.1.2.1).bind fun f=>(cond f.1.1 (some ((0,e.1.2.1,()),())) ((Kv g e.1.2.1.P.To e.1.1).bind fun h=>((Ep g (d9.mk (s9.mk e.1.2.1.P.No e.1.2.1.P.Ms h.1.1 e.1.2.1.P.Rs e.1.2.1.P.Id e.1.2.1.P.As e.1.2.1.P.Ss e.1.2.1.P.Vars e.1.2.1.P.Es) e.1.2.1.Rs e.1.2.1.F) b (l4.mk h.1.2.1 0 0)).bind fun j=>(some ((h.1.2.1,j.1.1,()),()))))))) ((okP (B9 b (w64 (b+1)) (a.P.No.length:Int))).bind fun _=>((Pk g a.P.To a.Rs (x8 a.P.No b (w64 (b+1)))).bind fun k=>(cond (decide (k.1.2.1=0)) ((Bm g a 8 b).bind fun l=>(some ((0,l.1.1,()),()))) ((Ep g a b (l4.mk k.1.2.1 0 0)).bind fun m=>(some ((k.1.2.1,m.1.1,()),()))))))))))
def nB(g:Q_g)(a:d9)(b:Int)(c:(List w7))(d:Int):b5I:=
 Lh g b c d d a
def Oe(g:Q_g)(a:Int)(b:(List w7))(c:Int)(d:Int)(e:d9):b5I:=
 ((i6 e.P.No c).bind fun f=>(cond (decide (d≤(w64 (c+f.Cs)))) ((N2 g e).bind fun h=>(cond h.1.1 (some ((e,()),())) ((i6 e.P.No d).bind fun j=>(cond (decide (j.Ks=26)) (Nb g a b c d (-1) 0 e j) (cond (decide (j.Ks=27)) ((fA g e j.Gs).bind fun k=>(cond (decide (k.1.1<0)) ((sN g j.Gs).bind fun l=>(cond (decide ((w64 (0-l.1.1))=0)) ((Bm g e 8 d).bind fun m=>(some ((m.1.1,()),()))) (nZ g a b c d (w64 (0-l.1.1)) e))) (nZ g a b c d k.1.1 e))) (cond (decide (j.Ks=32)) ((Wm g e (w64 (d+1))).bind fun n=>((Ep g n.1.2.1 d (l4.mk n.1.1 0 0)).bind fun o=>Ph g a b c d o.1.1)) (Ph g a b c d e))))))) (NQ g e)))
def Uh(g:Q_g)(a:Int)(b:(List w7))(c:Int)(d:Int)(e:Int)(f:Int)(h:d9)(j:d7):b5I:=
 (cond (decide (f<(b.length:Int))) ((i6 b f).bind fun k=>(cond (decide (k.Js=j.Gs)) ((i6 b f).bind fun l=>Nb g a b c d l.Ys (w64 (f+1)) h j) (Nb g a b c d e (w64 (f+1)) h j))) (JY g a b c d e h))
def nE(g:Q_g)(a:Int)(b:(List w7))(c:Int)(d:Int)(e:Int)(f:d9):b5I:=
 ((Ep g f d (l4.mk 0 e 0)).bind fun h=>Ph g a b c d h.1.1)
def Wh(g:Q_g)(a:d9):b5I:=
 (some ((a,()),()))
def kC(g:Q_g)(a:Int)(b:(List w7))(c:Int)(d:Int)(e:Int)(f:d9):b5I:=
 (cond (decide (e<0)) ((Bm g f 8 d).bind fun h=>(some ((h.1.1,()),()))) ((i6 f.P.As a).bind fun j=>((i6 f.P.Ss (w64 (j.At+e))).bind fun k=>((f.P.Ss[(Int.toNat (w64 (j.At+e)))]?).bind fun l=>((Ep g f d (l4.mk l e 0)).bind fun m=>Ph g a b c d m.1.1)))))
def Lu(g:Q_g)(a:Int)(b:(List w7))(c:Int)(d:Int)(e:d9):b5I:=
 Lh g a b c (w64 (d+1)) e
def qE(g:Q_g)(a:d9)(b:Int)(c:(List w7))(d:Int)(e:Int):b5T:=
 ((i6 a.P.No e).bind fun f=>((A4 32 a.P.Es ([(R1.mk b e f.Ls f.If)]:List R1)).bind fun h=>((Ep g (d9.mk (s9.mk a.P.No a.P.Ms a.P.To a.P.Rs a.P.Id a.P.As a.P.Ss a.P.Vars h) a.Rs a.F) e (l4.mk 0 0 (a.P.Es.length:Int))).bind fun j=>((U7 g j.1.1.P.No e).bind fun k=>(cond (!(decide (f.Ks=7))) (Mk g b c k 0 j.1.1) ((i6 k.1.1 0).bind fun l=>((k.1.1[(Int.toNat 0)]?).bind fun m=>((Wm g j.1.1 m).bind fun n=>((N2 g n.1.2.1).bind fun o=>(cond (!o.1.1) ((i6 k.1.1 1).bind fun p=>((k.1.1[(Int.toNat 1)]?).bind fun q=>((eW g n.1.2.1 b c q).bind fun s=>cP g b c d e a n s.1.1 f))) (cP g b c d e a n n.1.2.1 f)))))))))))
def Tz(g:Q_g)(a:Int)(b:(List w7))(c:RT3)(d:Int)(e:d9):b5T:=
 (cond (decide (d<(c.1.1.length:Int))) ((N2 g e).bind fun f=>(cond f.1.1 (some ((b,e,()),())) ((i6 c.1.1 d).bind fun h=>((c.1.1[(Int.toNat d)]?).bind fun j=>((i6 e.P.No j).bind fun k=>(cond (decide (k.Ks=6)) ((i6 c.1.1 d).bind fun l=>((c.1.1[(Int.toNat d)]?).bind fun m=>((tQ g e a b m).bind fun n=>Mk g a b c (w64 (d+1)) n.1.1))) ((i6 c.1.1 d).bind fun o=>((c.1.1[(Int.toNat d)]?).bind fun p=>((eW g e a b p).bind fun q=>Mk g a b c (w64 (d+1)) q.1.1))))))))) (QZ g b e))
def Si(g:Q_g)(a:Int)(b:(List w7))(c:Int)(d:Int)(e:d9)(f:N5)(h:Int)(j:d9)(k:d7):b5T:=
 (cond (decide (h<(b.length:Int))) ((i6 b h).bind fun l=>(cond (decide (l.Js=k.Gs)) ((i6 b h).bind fun m=>(cond (decide (m.Zs=c)) ((Bm g j 7 d).bind fun n=>Nd g a b c d e f (w64 (h+1)) n.1.1 k) (Nd g a b c d e f (w64 (h+1)) j k))) (Nd g a b c d e f (w64 (h+1)) j k))) (BE g a b c d e f j k))
def iZ(g:Q_g)(a:Int)(b:(List w7))(c:Int)(d:Int)(e:d9)(f:N5)(h:d9)(j:d7):b5T:=
 Nd g a b c d e f 0 h j
def qD(g:Q_g)(a:(List w7))(b:d9):b5T:=
 (some ((a,b,()),()))
def eC(g:Q_g)(a:Int)(b:(List w7))(c:Int)(d:Int)(e:d9)(f:N5)(h:d9)(j:d7):b5T:=
 ((i6 h.P.As a).bind fun k=>(cond (decide (k.Ss≥200)) ((Bm g h 13 d).bind fun l=>dT g a b c d e f l.1.1 j) (dT g a b c d e f h j)))
def bY(g:Q_g)(a:Int)(b:(List w7))(c:Int)(d:Int)(e:d9)(f:N5)(h:d9)(j:d7):b5T:=
 ((N2 g h).bind fun k=>(cond k.1.1 (some ((b,h,()),())) ((i6 h.P.As a).bind fun l=>((Ep g h d (l4.mk f.1.1 l.Ss (e.P.Es.length:Int))).bind fun m=>((wL g m.1.1 a b j.Gs f.1.1 c (m.1.1.P.Es.length:Int)).bind fun n=>(some ((n.1.1,n.1.2.1,()),())))))))
def kA(g:Q_g)(a:d9)(b:Int)(c:(List w7))(d:Int):b5I:=
 ((U7 g a.P.No d).bind fun e=>jM g b c d e 0 a)
def Uc(g:Q_g)(a:Int)(b:(List w7))(c:Int)(d:RT3)(e:Int)(f:d9):b5I:=
 (cond (decide (e<(d.1.1.length:Int))) ((N2 g f).bind fun h=>(cond h.1.1 (some ((f,()),())) ((i6 d.1.1 e).bind fun j=>((d.1.1[(Int.toNat e)]?).bind fun k=>((HN g f a b c k).bind fun l=>jM g a l.1.1 c d (w64 (e+1)) l.1.2.1))))) (JR g b c f))
def mS(g:Q_g)(a:(List w7))(b:Int)(c:d9):b5I:=
 ((A4 48 ([]:List I8) c.P.Vars).bind fun d=>Yr g a b 0 c d)
def Ry(g:Q_g)(a:(List w7))(b:Int)(c:Int)(d:d9)(e:(List I8)):b5I:=
 (cond (decide (c<(a.length:Int))) ((i6 a c).bind fun f=>(cond (decide (f.Zs=b)) ((i6 a c).bind fun h=>((i6 e h.At).bind fun j=>((e[(Int.toNat h.At)]?).bind fun k=>((e[(Int.toNat h.At)]?).bind fun l=>((G4 e (Int.toNat h.At) (I8.mk l.Fn l.Js l.Ys l.Us (d.P.Es.length:Int))).bind fun m=>Yr g a b (w64 (c+1)) d m))))) (Yr g a b (w64 (c+1)) d e))) (a0y g d e))
def kS(g:Q_g)(a:d9)(b:(List I8)):b5I:=
 (some (((d9.mk (s9.mk a.P.No a.P.Ms a.P.To a.P.Rs a.P.Id a.P.As a.P.Ss b a.P.Es) a.Rs a.F),()),()))
def oD(g:Q_g)(a:d9)(b:Int):b5I:=
 ((A4 72 ([]:List t9) a.P.As).bind fun c=>((i6 c b).bind fun d=>((c[(Int.toNat b)]?).bind fun e=>((c[(Int.toNat b)]?).bind fun f=>((G4 c (Int.toNat b) (t9.mk f.Js f.Hs f.Ps f.By (a.P.Ss.length:Int) f.Ss f.Us f.Es)).bind fun h=>((i6 h b).bind fun j=>((h[(Int.toNat b)]?).bind fun k=>((h[(Int.toNat b)]?).bind fun l=>((G4 h (Int.toNat b) (t9.mk l.Js l.Hs l.Ps l.By l.At l.Ss (a.P.Es.length:Int) l.Es)).bind fun m=>((i6 m b).bind fun n=>((m[(Int.toNat b)]?).bind fun o=>((m[(Int.toNat b)]?).bind fun p=>((U7 g a.P.No p.Hs).bind fun q=>bG g b q 0 (d9.mk (s9.mk a.P.No a.P.Ms a.P.To a.P.Rs a.P.Id m a.P.Ss a.P.Vars a.P.Es) a.Rs a.F) ([]:List w7))))))))))))))
def Yw(g:Q_g)(a:Int)(b:RT3)(c:Int)(d:d9)(e:(List w7)):b5I:=
 (cond (decide (c<(w64 ((b.1.1.length:Int)-2)))) ((i6 b.1.1 c).bind fun f=>((b.1.1[(Int.toNat c)]?).bind fun h=>((i6 d.P.No h).bind fun j=>((i6 b.1.1 c).bind fun k=>((b.1.1[(Int.toNat c)]?).bind fun l=>((i6 d.P.Ms l).bind fun m=>((i6 b.1.1 (w64 ((w64 ((b.1.1.length:Int)-2))+1))).bind fun n=>((b.1.1[(Int.toNat (w64 ((w64 ((b.1.1.length:Int)-2))+1)))]?).bind fun o=>((wL g d a e j.Gs m.Ts o (d.P.Es.length:Int)).bind fun p=>bG g a b (w64 (c+1)) p.1.2.1 p.1.1))))))))) (CS g a b d e))
def wN(g:Q_g)(a:Int)(b:RT3)(c:d9)(d:(List w7)):b5I:=
 ((i6 b.1.1 (w64 ((w64 ((b.1.1.length:Int)-2))+1))).bind fun e=>((b.1.1[(Int.toNat (w64 ((w64 ((b.1.1.length:Int)-2))+1)))]?).bind fun f=>((tQ g c a d f).bind fun h=>((A4 72 ([]:List t9) h.1.1.P.As).bind fun j=>((i6 j a).bind fun k=>((j[(Int.toNat a)]?).bind fun l=>((j[(Int.toNat a)]?).bind fun m=>((i6 j a).bind fun n=>((j[(Int.toNat a)]?).bind fun o=>((j[(Int.toNat a)]?).bind fun p=>((G4 j (Int.toNat a) (t9.mk p.Js p.Hs p.Ps p.By p.At p.Ss p.Us (w64 ((h.1.1.P.Es.length:Int)-m.Us)))).bind fun q=>(some (((d9.mk (s9.mk h.1.1.P.No h.1.1.P.Ms h.1.1.P.To h.1.1.P.Rs h.1.1.P.Id q h.1.1.P.Ss h.1.1.P.Vars h.1.1.P.Es) h.1.1.Rs h.1.1.F),()),())))))))))))))
def wS(g:Q_g)(a:(List d7)):b5P:=
 ((lB g a).bind fun b=>(cond (!b.1.1) (some (((s9.mk ([]:List d7) ([]:List l4) ([]:List r9) ([]:List N1) ([]:List Q1) ([]:List t9) ([]:List Int) ([]:List I8) ([]:List R1)),(y6.mk 1 0 0),()),())) ((okP (R2 24 (a.length:Int))).bind fun _=>((DE g (d9.mk (s9.mk a (List.replicate (Int.toNat (a.length:Int)) ((l4.mk 0 0 0):l4)) ([]:List r9) ([]:List N1) ([]:List Q1) ([]:List t9) ([]:List Int) ([]:List I8) ([]:List R1)) ([]:List (b5Y)) (y6.mk 0 0 0))).bind fun c=>((N2 g c.1.1).bind fun d=>(cond (!d.1.1) ((KF g c.1.1).bind fun e=>eO g e.1.1) (eO g c.1.1)))))))
def Jl(g:Q_g)(a:Int)(b:Int)(c:d9):b5P:=
 (cond (decide (b<a)) ((N2 g c).bind fun d=>(cond (!d.1.1) ((JT g c b).bind fun e=>Ic g a (w64 (b+1)) e.1.1) (Ic g a (w64 (b+1)) c))) (Wq g c))
def Yl(g:Q_g)(a:d9):b5P:=
 Ic g (a.P.As.length:Int) 0 a
def kQ(g:Q_g)(a:RT2)(b:d9):b5P:=
 ((i6 b.P.As a.1.1).bind fun c=>((b.P.As[(Int.toNat a.1.1)]?).bind fun d=>((b.P.As[(Int.toNat a.1.1)]?).bind fun e=>((Ha g b 11 e.Hs).bind fun f=>Ll g f.1.1))))
def lY(g:Q_g)(a:d9):b5P:=
 ((N2 g a).bind fun b=>(cond (!b.1.1) ((fA g a ([109,97,105,110]:b5Y)).bind fun c=>(cond (decide (c.1.1<0)) (Ll g (d9.mk a.P a.Rs (y6.mk 11 0 0))) ((i6 a.P.As c.1.1).bind fun d=>((a.P.As[(Int.toNat c.1.1)]?).bind fun e=>((a.P.As[(Int.toNat c.1.1)]?).bind fun f=>(cond (decide (f.Ps>0)) (qP g c a) ((i6 a.P.As c.1.1).bind fun h=>((a.P.As[(Int.toNat c.1.1)]?).bind fun j=>((a.P.As[(Int.toNat c.1.1)]?).bind fun k=>(cond (!(decide (k.By=0))) (qP g c a) (Ll g a))))))))))) (Ll g a)))
def Wf(g:Q_g)(a:d9):b5P:=
 ((N2 g a).bind fun b=>(cond b.1.1 (some (((s9.mk ([]:List d7) ([]:List l4) ([]:List r9) ([]:List N1) ([]:List Q1) ([]:List t9) ([]:List Int) ([]:List I8) ([]:List R1)),a.F,()),())) (some ((a.P,(y6.mk 0 0 0),()),()))))
def oM(g:Q_g)(a:l8)(b:Int)(c:Int):Option RT4:=
 (cond (decide (a.F.Code=0)) ((i6 a.L c).bind fun d=>((i6 a.L c).bind fun e=>(some (((l8.mk a.L a.M a.P a.T (y6.mk b d.Ls e.If) a.By),()),())))) (some ((a,()),())))
def uL(g:Q_g)(a:l8)(b:Bool)(c:Int):Option RT4:=
 (cond b (some ((a,()),())) ((Ef g a 9 c).bind fun d=>(some ((d.1.1,()),()))))
def pZ(g:Q_g)(a:(List r9))(b:Int)(c:Int):Option RT0:=
 (cond (decide (b<0)) (some ((false,()),())) (cond (decide (c<0)) (some ((false,()),())) (cond (decide (b≥(a.length:Int))) (some ((false,()),())) (cond (decide (c≥(a.length:Int))) (some ((false,()),())) (cond (decide (b=5)) ((i6 a c).bind fun d=>(cond (decide (d.Ks=6)) (some ((true,()),())) ((i6 a c).bind fun e=>(cond (decide (e.Ks=7)) (some ((true,()),())) (some (((decide (b=c)),()),())))))) (some (((decide (b=c)),()),())))))))
def nI(g:Q_g)(a:l8)(b:Int)(c:Int):Option RT0:=
 ((AN g a.T b c).bind fun d=>(some ((d.1.1,()),())))
def gY(g:Q_g)(a:Int):Option Ev:=
 ((i6 ([[],[108],[115],[99],[99],[105,105],[105],[],[105]]:List (b5Y)) a).bind fun b=>((([[],[108],[115],[99],[99],[105,105],[105],[],[105]]:List (b5Y))[(Int.toNat a)]?).bind fun c=>((i6 ([0,1,3,1,1,4,3,1,1]:List Int) a).bind fun d=>((([0,1,3,1,1,4,3,1,1]:List Int)[(Int.toNat a)]?).bind fun e=>(some ((c,e,()),()))))))
def fN(g:Q_g)(a:l8)(b:Int):Option RT2:=
 ((i6 a.T b).bind fun c=>(some ((c.Ks,()),())))
def rO(g:Q_g)(a:l8)(b:Int)(c:Int):Option RT0:=
 (cond (decide (c=105)) (some (((decide (b=1)),()),())) (cond (decide (c=99)) (some (((decide (b=4)),()),())) (cond (decide (c=108)) (cond (decide (b=3)) (some ((true,()),())) ((Jy g a b).bind fun d=>(some (((decide (d.1.1=7)),()),())))) (cond (decide (b=1)) (some ((true,()),())) (cond (decide (b=2)) (some ((true,()),())) (some (((decide (b=4)),()),())))))))
def uV(g:Q_g)(a:l8)(b:Int):b5K:=
 ((U7 g a.L b).bind fun c=>Wp g b c 0 a ([]:List Int))
def Vz(g:Q_g)(a:Int)(b:RT3)(c:Int)(d:l8)(e:(List Int)):b5K:=
 (cond (decide (c<(b.1.1.length:Int))) ((i6 b.1.1 c).bind fun f=>((b.1.1[(Int.toNat c)]?).bind fun h=>((Q6 g d h).bind fun j=>((A4 8 e ([j.1.1]:List Int)).bind fun k=>Wp g a b (w64 (c+1)) j.1.2.1 k)))) (FV g a d b e))
def nN(g:Q_g)(a:Int)(b:l8)(c:RT3)(d:(List Int)):b5K:=
 (cond (!(decide (b.F.Code=0))) (some ((0,b,()),())) ((i6 b.M a).bind fun e=>(cond (decide (e.Ds<0)) ((CO g (w64 (0-e.Ds))).bind fun f=>(cond (!(decide ((f.1.1.length:Int)=(c.1.1.length:Int)))) ((Ef g b 10 a).bind fun h=>(some ((0,h.1.1,()),()))) (Vw g f c 0 b d))) ((i6 b.P.As e.Ds).bind fun j=>(cond (!(decide (j.Ps=(c.1.1.length:Int)))) ((Ef g b 10 a).bind fun k=>(some ((0,k.1.1,()),()))) (Rz g c 0 b j d))))))
def Yp(g:Q_g)(a:Ev)(b:RT3)(c:Int)(d:l8)(e:(List Int)):b5K:=
 (cond (decide (c<(b.1.1.length:Int))) ((i6 e c).bind fun f=>((e[(Int.toNat c)]?).bind fun h=>((i6 a.1.1 c).bind fun j=>((HP g d h (j.toNat:Int)).bind fun k=>((i6 b.1.1 c).bind fun l=>((b.1.1[(Int.toNat c)]?).bind fun m=>((J4 g d k.1.1 m).bind fun n=>Vw g a b (w64 (c+1)) n.1.1 e))))))) (IA g a d))
def Wc(g:Q_g)(a:RT3)(b:Int)(c:l8)(d:t9)(e:(List Int)):b5K:=
 (cond (decide (b<(a.1.1.length:Int))) ((i6 e b).bind fun f=>((e[(Int.toNat b)]?).bind fun h=>((i6 c.P.Ss (w64 (d.At+b))).bind fun j=>((Au g c h j).bind fun k=>((i6 a.1.1 b).bind fun l=>((a.1.1[(Int.toNat b)]?).bind fun m=>((J4 g c k.1.1 m).bind fun n=>Rz g a (w64 (b+1)) n.1.1 d e))))))) (IQ g c d))
def lH(g:Q_g)(a:Ev)(b:l8):b5K:=
 (some ((a.1.2.1,b,()),()))
def sO(g:Q_g)(a:l8)(b:t9):b5K:=
 (some ((b.By,a,()),()))
def cJ(g:Q_g)(a:l8)(b:Int)(c:Int):b5K:=
 ((Q6 g a c).bind fun d=>(cond (!(decide (d.1.2.1.F.Code=0))) (sW g c d) ((Jy g d.1.2.1 d.1.1).bind fun e=>(cond (!(decide (e.1.1=6))) (sW g c d) ((i6 d.1.2.1.T d.1.1).bind fun f=>((i6 d.1.2.1.P.Rs f.Of).bind fun h=>Tp g b 0 d h))))))
def xA(g:Q_g)(a:Int)(b:A6):b5K:=
 ((Ef g b.1.2.1 9 a).bind fun c=>(some ((0,c.1.1,()),())))
def aZ(g:Q_g)(a:Int)(b:Int)(c:A6)(d:N1):b5K:=
 (cond (decide (b<d.Xs)) ((i6 c.1.2.1.P.Id (w64 (d.Ws+b))).bind fun e=>((i6 c.1.2.1.L a).bind fun f=>(cond (decide (e.Js=f.Gs)) ((A4 24 ([]:List l4) c.1.2.1.M).bind fun h=>((i6 h a).bind fun j=>((h[(Int.toNat a)]?).bind fun k=>((h[(Int.toNat a)]?).bind fun l=>((G4 h (Int.toNat a) (l4.mk l.Ts b l.In)).bind fun m=>(some ((e.Ts,(l8.mk c.1.2.1.L m c.1.2.1.P c.1.2.1.T c.1.2.1.F c.1.2.1.By),()),()))))))) (Tp g a (w64 (b+1)) c d)))) (NH g a c))
def oN(g:Q_g)(a:Int)(b:A6):b5K:=
 ((Ef g b.1.2.1 8 a).bind fun c=>(some ((0,c.1.1,()),())))
def lK(g:Q_g)(a:l8)(b:Int)(c:Int)(d:Int):Option RT2:=
 ((Jy g a c).bind fun e=>((Jy g a d).bind fun f=>(cond (decide (b=6)) (kE g c d e f a) (cond (decide (b=7)) (kE g c d e f a) (cond (!(decide (c=d))) (some ((0,()),())) (cond (decide (b=14)) (qF g c) (cond (decide (b=15)) (qF g c) (cond (decide (b≥8)) (cond (decide (c=1)) (some ((2,()),())) (Ht g)) (cond (decide (c=1)) (some ((1,()),())) (cond (decide (c=4)) (cond (decide (b≤3)) (some ((4,()),())) (pF g b c)) (pF g b c)))))))))))
def iW(g:Q_g)(a:Int)(b:Int):Option RT2:=
 (cond (decide (a=b)) (cond (decide (a>0)) (some ((2,()),())) (Ht g)) (Ht g))
def pS(g:Q_g)(a:Int)(b:Int)(c:RT2)(d:RT2)(e:l8):Option RT2:=
 (cond (decide (c.1.1≥5)) (cond (decide (d.1.1≥5)) (cond (!(decide (c.1.1=5))) ((Au g e a b).bind fun f=>(cond f.1.1 (some ((2,()),())) ((Au g e b a).bind fun h=>(cond h.1.1 (some ((2,()),())) (some ((0,()),())))))) (cond (!(decide (d.1.1=5))) ((Au g e a b).bind fun f=>(cond f.1.1 (some ((2,()),())) ((Au g e b a).bind fun h=>(cond h.1.1 (some ((2,()),())) (some ((0,()),())))))) (some ((0,()),())))) (dC g a b)) (dC g a b))
def qM(g:Q_g)(a:Int):Option RT2:=
 (cond (decide (a=2)) (some ((2,()),())) (Ht g))
def eV(g:Q_g)(a:Int)(b:Int):Option RT2:=
 (cond (decide (b=3)) (cond (decide (a=1)) (some ((3,()),())) (Ht g)) (Ht g))
def FA(g:Q_g):Option RT2:=
 (some ((0,()),()))
def xD(g:Q_g)(a:l8)(b:Int)(c:Int):Option RT4:=
 ((A4 24 ([]:List l4) a.M).bind fun d=>((i6 d b).bind fun e=>((d[(Int.toNat b)]?).bind fun f=>((d[(Int.toNat b)]?).bind fun h=>((G4 d (Int.toNat b) (l4.mk c h.Ds h.In)).bind fun j=>(some (((l8.mk a.L j a.P a.T a.F a.By),()),())))))))
def rK(g:Q_g)(a:l8)(b:Int):b5K:=
 (cond (!(decide (a.F.Code=0))) (some ((0,a,()),())) ((i6 a.L b).bind fun c=>((U7 g a.L b).bind fun d=>((i6 a.M b).bind fun e=>(cond (decide (c.Ks≥21)) (cond (decide (c.Ks≤25)) ((i6 ([1,4,3,2,5]:List Int) (IntKind.wrap .u8 (c.Ks-21))).bind fun f=>((([1,4,3,2,5]:List Int)[(Int.toNat (IntKind.wrap .u8 (c.Ks-21)))]?).bind fun h=>I5 g b h a)) (CJ g b e a c d)) (CJ g b e a c d))))))
def gJ(g:Q_g)(a:Int)(b:Int)(c:l8):b5K:=
 ((BR g c a b).bind fun d=>(some ((b,d.1.1,()),())))
def dF(g:Q_g)(a:Int)(b:Int)(c:A6)(d:RT3):b5K:=
 ((i6 d.1.1 0).bind fun e=>((d.1.1[(Int.toNat 0)]?).bind fun f=>((J4 g c.1.2.1 (decide (b>0)) f).bind fun h=>((i6 d.1.1 1).bind fun j=>((d.1.1[(Int.toNat 1)]?).bind fun k=>((J4 g h.1.1 (decide (c.1.1=1)) k).bind fun l=>I5 g a b l.1.1))))))
def jS(g:Q_g)(a:Int)(b:Int)(c:A6)(d:A6)(e:RT3):b5K:=
 (cond (decide (c.1.1=3)) (eI g a 1 d e) (eI g a b d e))
def gI(g:Q_g)(a:Int)(b:l4)(c:l8)(d:d7)(e:RT3):b5K:=
 (cond (decide (d.Ks=27)) ((JB g c a).bind fun f=>I5 g a f.1.1 f.1.2.1) (cond (decide (d.Ks=28)) ((i6 e.1.1 0).bind fun h=>((e.1.1[(Int.toNat 0)]?).bind fun j=>((Q6 g c j).bind fun k=>((i6 e.1.1 1).bind fun l=>((e.1.1[(Int.toNat 1)]?).bind fun m=>((Q6 g k.1.2.1 m).bind fun n=>((Jy g n.1.2.1 k.1.1).bind fun o=>(cond (decide (o.1.1=7)) ((i6 n.1.2.1.T k.1.1).bind fun p=>vL g a p.Of k n e) (vL g a 0 k n e))))))))) (cond (decide (d.Ks=29)) ((i6 e.1.1 0).bind fun q=>((e.1.1[(Int.toNat 0)]?).bind fun s=>((ZK g c a s).bind fun t=>I5 g a t.1.1 t.1.2.1))) (cond (decide (d.Ks=30)) ((i6 e.1.1 0).bind fun u=>((e.1.1[(Int.toNat 0)]?).bind fun v=>((Q6 g c v).bind fun w=>(cond (decide (d.Ns=13)) (cond (decide (w.1.1=2)) ((i6 e.1.1 0).bind fun y=>((e.1.1[(Int.toNat 0)]?).bind fun z=>((J4 g w.1.2.1 true z).bind fun a1=>I5 g a w.1.1 a1.1.1))) (cond (decide (d.Ns=12)) (cond (decide (w.1.1=1)) ((i6 e.1.1 0).bind fun y=>((e.1.1[(Int.toNat 0)]?).bind fun z=>((J4 g w.1.2.1 true z).bind fun a1=>I5 g a w.1.1 a1.1.1))) ((i6 e.1.1 0).bind fun y=>((e.1.1[(Int.toNat 0)]?).bind fun z=>((J4 g w.1.2.1 (decide (w.1.1=4)) z).bind fun a1=>I5 g a w.1.1 a1.1.1)))) ((i6 e.1.1 0).bind fun y=>((e.1.1[(Int.toNat 0)]?).bind fun z=>((J4 g w.1.2.1 false z).bind fun a1=>I5 g a w.1.1 a1.1.1))))) (cond (decide (d.Ns=12)) (cond (decide (w.1.1=1)) ((i6 e.1.1 0).bind fun y=>((e.1.1[(Int.toNat 0)]?).bind fun z=>((J4 g w.1.2.1 true z).bind fun a1=>I5 g a w.1.1 a1.1.1))) ((i6 e.1.1 0).bind fun y=>((e.1.1[(Int.toNat 0)]?).bind fun z=>((J4 g w.1.2.1 (decide (w.1.1=4)) z).bind fun a1=>I5 g a w.1.1 a1.1.1)))) ((i6 e.1.1 0).bind fun y=>((e.1.1[(Int.toNat 0)]?).bind fun z=>((J4 g w.1.2.1 false z).bind fun a1=>I5 g a w.1.1 a1.1.1)))))))) (cond (decide (d.Ks=31)) ((i6 e.1.1 0).bind fun b1=>((e.1.1[(Int.toNat 0)]?).bind fun c1=>((Q6 g c c1).bind fun d1=>((i6 e.1.1 1).bind fun e1=>((e.1.1[(Int.toNat 1)]?).bind fun f1=>((Q6 g d1.1.2.1 f1).bind fun h1=>((FQ g h1.1.2.1 d.Ns d1.1.1 h1.1.1).bind fun j1=>((J4 g h1.1.2.1 (decide (j1.1.1>0)) a).bind fun k1=>I5 g a j1.1.1 k1.1.1)))))))) (cond (decide (d.Ks=32)) (cond (decide ((e.1.1.length:Int)=2)) ((i6 e.1.1 1).bind fun l1=>((e.1.1[(Int.toNat 1)]?).bind fun m1=>((Q6 g c m1).bind fun n1=>((i6 e.1.1 1).bind fun o1=>((e.1.1[(Int.toNat 1)]?).bind fun p1=>((J4 g n1.1.2.1 (decide (n1.1.1=1)) p1).bind fun q1=>I5 g a b.Ts q1.1.1)))))) (I5 g a b.Ts c)) (I5 g a b.Ts c)))))))
def Ge(g:Q_g)(a:l8)(b:Int):b5S:=
 (cond (!(decide (a.F.Code=0))) (some ((false,a,()),())) ((U7 g a.L b).bind fun c=>((i6 a.L b).bind fun d=>(cond (decide (d.Ks=7)) ((i6 c.1.1 1).bind fun e=>((c.1.1[(Int.toNat 1)]?).bind fun f=>((Q6 g a f).bind fun h=>((i6 h.1.2.1.M b).bind fun j=>((Au g h.1.2.1 h.1.1 j.Ts).bind fun k=>((i6 c.1.1 1).bind fun l=>((c.1.1[(Int.toNat 1)]?).bind fun m=>((J4 g h.1.2.1 k.1.1 m).bind fun n=>(some ((false,n.1.1,()),())))))))))) (cond (decide (d.Ks=8)) ((i6 c.1.1 0).bind fun o=>((c.1.1[(Int.toNat 0)]?).bind fun p=>((Q6 g a p).bind fun q=>((i6 c.1.1 1).bind fun s=>((c.1.1[(Int.toNat 1)]?).bind fun t=>((Q6 g q.1.2.1 t).bind fun u=>(cond (decide (u.1.2.1.F.Code=0)) ((i6 c.1.1 0).bind fun v=>((c.1.1[(Int.toNat 0)]?).bind fun w=>((i6 u.1.2.1.L w).bind fun y=>(cond (decide (y.Ks=28)) ((i6 c.1.1 0).bind fun z=>((c.1.1[(Int.toNat 0)]?).bind fun a1=>((i6 u.1.2.1.M (w64 (a1+1))).bind fun b1=>(cond (decide (b1.Ts=3)) ((i6 c.1.1 0).bind fun c1=>((c.1.1[(Int.toNat 0)]?).bind fun d1=>((Ef g u.1.2.1 9 d1).bind fun e1=>Ql g q u e1.1.1 c))) (Ql g q u u.1.2.1 c))))) (Ql g q u u.1.2.1 c))))) (Ql g q u u.1.2.1 c)))))))) (cond (decide (d.Ks=9)) (dJ g a c) (cond (decide (d.Ks=10)) (dJ g a c) (cond (decide (d.Ks=11)) (cond (decide ((c.1.1.length:Int)=0)) ((J4 g a (decide (a.By=0)) b).bind fun f1=>(some ((true,f1.1.1,()),()))) ((i6 c.1.1 0).bind fun h1=>((c.1.1[(Int.toNat 0)]?).bind fun j1=>((Q6 g a j1).bind fun k1=>(cond (!(decide (a.By=0))) ((Au g k1.1.2.1 k1.1.1 a.By).bind fun l1=>((i6 c.1.1 0).bind fun m1=>((c.1.1[(Int.toNat 0)]?).bind fun n1=>((J4 g k1.1.2.1 l1.1.1 n1).bind fun o1=>(some ((true,o1.1.1,()),())))))) ((i6 c.1.1 0).bind fun m1=>((c.1.1[(Int.toNat 0)]?).bind fun n1=>((J4 g k1.1.2.1 false n1).bind fun o1=>(some ((true,o1.1.1,()),())))))))))) (cond (decide (d.Ks=12)) ((i6 c.1.1 0).bind fun p1=>((c.1.1[(Int.toNat 0)]?).bind fun q1=>((Q6 g a q1).bind fun s1=>((i6 c.1.1 0).bind fun t1=>((c.1.1[(Int.toNat 0)]?).bind fun u1=>((J4 g s1.1.2.1 (!(decide (s1.1.1=0))) u1).bind fun v1=>(some ((false,v1.1.1,()),())))))))) ((i6 c.1.1 0).bind fun w1=>((c.1.1[(Int.toNat 0)]?).bind fun y1=>((Q6 g a y1).bind fun z1=>(some ((false,z1.1.2.1,()),()))))))))))))))
def eS(g:Q_g)(a:A6)(b:A6)(c:l8)(d:RT3):b5S:=
 ((Au g c b.1.1 a.1.1).bind fun e=>((i6 d.1.1 1).bind fun f=>((d.1.1[(Int.toNat 1)]?).bind fun h=>((J4 g c e.1.1 h).bind fun j=>(some ((false,j.1.1,()),()))))))
def aV(g:Q_g)(a:Bool)(b:Int)(c:l8)(d:RT3):b5S:=
 (cond (decide (b<(d.1.1.length:Int))) ((i6 d.1.1 b).bind fun e=>((d.1.1[(Int.toNat b)]?).bind fun f=>((oW g c f).bind fun h=>(cond a (Oi g h.1.1 (w64 (b+1)) h.1.2.1 d) (Oi g false (w64 (b+1)) h.1.2.1 d))))) (NO g a c))
def cH(g:Q_g)(a:l8)(b:RT3):b5S:=
 ((i6 b.1.1 0).bind fun c=>((b.1.1[(Int.toNat 0)]?).bind fun d=>((Q6 g a d).bind fun e=>((i6 b.1.1 0).bind fun f=>((b.1.1[(Int.toNat 0)]?).bind fun h=>((J4 g e.1.2.1 (decide (e.1.1=2)) h).bind fun j=>Oi g (decide ((b.1.1.length:Int)=3)) 1 j.1.1 b))))))
def eE(g:Q_g)(a:Bool)(b:l8):b5S:=
 (some ((a,b,()),()))
def qA(g:Q_g)(a:l8)(b:Int):b5S:=
 ((U7 g a.L b).bind fun c=>pW g false c 0 a)
def aF(g:Q_g)(a:Bool)(b:RT3)(c:Int)(d:l8):b5S:=
 (cond (decide (c<(b.1.1.length:Int))) ((i6 b.1.1 c).bind fun e=>((b.1.1[(Int.toNat c)]?).bind fun f=>((Gy g d f).bind fun h=>pW g h.1.1 b (w64 (c+1)) h.1.2.1))) (a09 g a d))
def vC(g:Q_g)(a:Bool)(b:l8):b5S:=
 (some ((a,b,()),()))
def gS(g:Q_g)(a:(List d7)):b5P:=
 ((xZ g a).bind fun b=>(cond (!(decide (b.1.2.1.Code=0))) (some (((s9.mk ([]:List d7) ([]:List l4) ([]:List r9) ([]:List N1) ([]:List Q1) ([]:List t9) ([]:List Int) ([]:List I8) ([]:List R1)),b.1.2.1,()),())) (Hc g a b 0 (l8.mk a b.1.1.Ms b.1.1 b.1.1.To (y6.mk 0 0 0) 0))))
def Vb(g:Q_g)(a:(List d7))(b:I3)(c:Int)(d:l8):b5P:=
 (cond (decide (c<(b.1.1.As.length:Int))) ((i6 b.1.1.As c).bind fun e=>((U7 g a e.Hs).bind fun f=>((i6 b.1.1.As c).bind fun h=>((i6 f.1.1 (w64 ((f.1.1.length:Int)-1))).bind fun j=>((f.1.1[(Int.toNat (w64 ((f.1.1.length:Int)-1)))]?).bind fun k=>((oW g (l8.mk d.L d.M d.P d.T d.F h.By) k).bind fun l=>(cond (!(decide (l.1.2.1.By=0))) (cond (!l.1.1) ((i6 b.1.1.As c).bind fun m=>((Ef g l.1.2.1 12 m.Hs).bind fun n=>Hc g a b (w64 (c+1)) n.1.1)) (Hc g a b (w64 (c+1)) l.1.2.1)) (Hc g a b (w64 (c+1)) l.1.2.1)))))))) (jU g b d))
def wG(g:Q_g)(a:I3)(b:l8):b5P:=
 (cond (!(decide (b.F.Code=0))) (some (((s9.mk ([]:List d7) ([]:List l4) ([]:List r9) ([]:List N1) ([]:List Q1) ([]:List t9) ([]:List Int) ([]:List I8) ([]:List R1)),b.F,()),())) (some (((s9.mk a.1.1.No b.M a.1.1.To a.1.1.Rs a.1.1.Id a.1.1.As a.1.1.Ss a.1.1.Vars a.1.1.Es),(y6.mk 0 0 0),()),())))
def vV(g:Q_g)(a:(b5Y)):b5P:=
 ((fR g a).bind fun b=>(cond (!(decide (b.1.2.1.Code=0))) (some (((s9.mk ([]:List d7) ([]:List l4) ([]:List r9) ([]:List N1) ([]:List Q1) ([]:List t9) ([]:List Int) ([]:List I8) ([]:List R1)),b.1.2.1,()),())) ((FZ g b.1.1).bind fun c=>(some ((c.1.1,c.1.2.1,()),())))))
def Yv(g:Q_g)(a:l6):Option RT0:=
 (cond (decide ((a.As.length:Int)>100)) (some ((false,()),())) (cond (decide ((a.Is.length:Int)>65536)) (some ((false,()),())) (cond (decide ((a.Vs.length:Int)>65536)) (some ((false,()),())) (Mh g 0 a 0))))
def Tq(g:Q_g)(a:Int)(b:l6)(c:Int):Option RT0:=
 (cond (decide (c<(b.As.length:Int))) ((i6 b.As c).bind fun d=>(cond (!(decide (d.At=a))) (some ((false,()),())) (cond (decide (d.Do<0)) (some ((false,()),())) (cond (decide (d.Do>(w64 ((b.Is.length:Int)-a)))) (some ((false,()),())) (cond (decide (d.Ps<0)) (some ((false,()),())) (cond (decide (d.Ps>d.Ss)) (some ((false,()),())) (cond (decide (d.Ss>200)) (some ((false,()),())) (cond (decide (d.By<0)) (some ((false,()),())) (cond (decide (d.By>1)) (some ((false,()),())) (Mh g (w64 (a+d.Do)) b (w64 (c+1)))))))))))) (xF g a b))
def lP(g:Q_g)(a:Int)(b:l6):Option RT0:=
 (cond (!(decide (a=(b.Is.length:Int)))) (some ((false,()),())) (Zf g b 0))
def Rx(g:Q_g)(a:l6)(b:Int):Option RT0:=
 (cond (decide (b<(a.Is.length:Int))) ((i6 a.Is b).bind fun c=>(cond (decide (c.Op<1)) (some ((false,()),())) (cond (decide (c.Op>26)) (some ((false,()),())) (cond (decide (c.Ls<0)) (some ((false,()),())) (cond (decide (c.Ls>2147483647)) (some ((false,()),())) (Zf g a (w64 (b+1)))))))) (JC g a))
def pT(g:Q_g)(a:l6):Option RT0:=
 Uz g 1048576 a 0
def Zc(g:Q_g)(a:Int)(b:l6)(c:Int):Option RT0:=
 (cond (decide (c<(b.Vs.length:Int))) ((i6 b.Vs c).bind fun d=>(cond (decide ((d.length:Int)>a)) (some ((false,()),())) (Uz g (w64 (a-(d.length:Int))) b (w64 (c+1))))) (a0o g))
def cM(g:Q_g):Option RT0:=
 (some ((true,()),()))
def dW(g:Q_g)(a:l6)(b:o0)(c:i9):Option RT2:=
 (cond (decide (c.Op=1)) (K7 g 19 (decide (c.A≥0))) (cond (decide (c.Op=17)) (K7 g 19 (decide (c.A≥0))) (cond (decide (c.Op=18)) (K7 g 19 (decide (c.A≥0))) (cond (decide (c.Op=21)) (K7 g 19 (decide (c.A≥0))) (cond (decide (c.Op=22)) (K7 g 19 (decide (c.A≥0))) (cond (decide (c.Op=7)) (DF g b c) (cond (decide (c.Op=8)) (DF g b c) (cond (decide (c.Op=5)) (cond (decide (c.A≥0)) (K7 g 19 (decide (c.A<(a.Vs.length:Int)))) (K7 g 19 false)) (cond (decide (c.Op=19)) (cond (decide (c.A≥0)) (K7 g 19 (decide (c.A<(a.As.length:Int)))) (K7 g 19 false)) (cond (decide (c.Op=3)) (cond (decide (c.A=0)) (K7 g 23 true) (K7 g 23 (decide (c.A=1)))) (cond (decide (c.Op=4)) (cond (decide (c.A≥0)) (K7 g 23 (decide (c.A<8388608))) (K7 g 23 false)) (cond (decide (c.Op=9)) (cond (decide (c.A=12)) (K7 g 23 true) (K7 g 23 (decide (c.A=13)))) (cond (decide (c.Op=10)) (cond (decide (c.A≥1)) (K7 g 23 (decide (c.A≤11))) (K7 g 23 false)) (cond (decide (c.Op=20)) (cond (decide (c.A≥1)) (K7 g 23 (decide (c.A≤8))) (K7 g 23 false)) (cond (decide (c.Op=11)) (bJ g b c) (cond (decide (c.Op=12)) (bJ g b c) (cond (decide (c.Op=13)) (bJ g b c) (cond (decide (c.Op=14)) (bJ g b c) (K7 g 19 true)))))))))))))))))))
def qW(g:Q_g)(a:Int)(b:Bool):Option RT2:=
 (cond b (some ((0,()),())) (some ((a,()),())))
def wF(g:Q_g)(a:o0)(b:i9):Option RT2:=
 (cond (decide (b.A≥0)) (K7 g 19 (decide (b.A<a.Ss))) (K7 g 19 false))
def eZ(g:Q_g)(a:o0)(b:i9):Option RT2:=
 (cond (decide (b.A≥0)) (K7 g 17 (decide (b.A<a.Do))) (K7 g 17 false))
def Qr(g:Q_g)(a:(List Int)):Option RT2:=
 (some (((a.length:Int),()),()))
def jZ(g:Q_g)(a:(List Int))(b:Int)(c:Int):Option RT0:=
 ((i6 a b).bind fun d=>((i6 a c).bind fun e=>(some (((decide (d<e)),()),()))))
def dM(g:Q_g)(a:u9)(b:Int):Option Ed:=
 Tv g b a a.todo_
def qR(g:Q_g)(a:Int)(b:u9)(c:(List Int)):Option Ed:=
 ((okP (2≠(0:Int))).bind fun _=>(cond (decide ((w64 (Int.tdiv (w64 (a-1)) 2))=a)) (some ((()),((u9.mk b.f_ b.depths_ c),()))) ((Up g c a (w64 (Int.tdiv (w64 (a-1)) 2))).bind fun d=>(cond (!d.1.1) (some ((()),((u9.mk b.f_ b.depths_ c),()))) ((i6 c (w64 (Int.tdiv (w64 (a-1)) 2))).bind fun e=>((i6 c a).bind fun(f:Int)=>Tv g (w64 (Int.tdiv (w64 (a-1)) 2)) b ((c.set (Int.toNat (w64 (Int.tdiv (w64 (a-1)) 2))) f).set (Int.toNat a) e)))))))
def dY(g:Q_g)(a:u9)(b:Int):Option Ed:=
 ((A4 8 a.todo_ ([b]:List Int)).bind fun c=>(some ((()),((u9.mk a.f_ a.depths_ c),()))))
def jI(g:Q_g)(a:u9)(b:Int):Option Ed:=
 ((YS g a b).bind fun c=>((Wn g c.2.1.todo_).bind fun d=>((PB g c.2.1 (w64 (d.1.1-1))).bind fun e=>(some ((()),(e.2.1,()))))))
def vY(g:Q_g)(a:u9)(b:Int)(c:Int):b5R:=
 (cond (decide (b≥a.f_.Do)) (some ((17,()),(a,()))) ((i6 a.depths_ b).bind fun d=>((a.depths_[(Int.toNat b)]?).bind fun e=>(cond (decide (e<0)) ((i6 a.depths_ b).bind fun f=>((a.depths_[(Int.toNat b)]?).bind fun h=>((G4 a.depths_ (Int.toNat b) c).bind fun j=>((xI g (u9.mk a.f_ j a.todo_) b).bind fun k=>(some ((0,()),(k.2.1,()))))))) ((i6 a.depths_ b).bind fun l=>((a.depths_[(Int.toNat b)]?).bind fun m=>(cond (!(decide (m=c))) (some ((18,()),(a,()))) (some ((0,()),(a,()))))))))))
def vK(g:Q_g)(a:u9)(b:Int)(c:Int):Option RT9:=
 Um g b c b a a.todo_
def cX(g:Q_g)(a:Int)(b:Int)(c:Int)(d:u9)(e:(List Int)):Option RT9:=
 (cond (decide ((w64 ((w64 (2*c))+1))≥b)) (bL g a c d e) (cond (decide ((w64 ((w64 (2*c))+1))<0)) (bL g a c d e) (cond (decide ((w64 ((w64 ((w64 (2*c))+1))+1))<b)) ((Up g e (w64 ((w64 ((w64 (2*c))+1))+1)) (w64 ((w64 (2*c))+1))).bind fun f=>(cond f.1.1 (Uu g a b c (w64 ((w64 ((w64 (2*c))+1))+1)) d e) (Uu g a b c (w64 ((w64 (2*c))+1)) d e))) (Uu g a b c (w64 ((w64 (2*c))+1)) d e))))
def lD(g:Q_g)(a:Int)(b:Int)(c:u9)(d:(List Int)):Option RT9:=
 (some (((decide (b>a)),()),((u9.mk c.f_ c.depths_ d),())))
def iH(g:Q_g)(a:Int)(b:Int)(c:Int)(d:Int)(e:u9)(f:(List Int)):Option RT9:=
 ((Up g f d c).bind fun h=>(cond (!h.1.1) (bL g a c e f) ((i6 f c).bind fun j=>((i6 f d).bind fun(k:Int)=>Um g a b d e ((f.set (Int.toNat c) k).set (Int.toNat d) j)))))
def wX(g:Q_g)(a:u9):b5R:=
 ((i6 a.todo_ (w64 ((a.todo_.length:Int)-1))).bind fun b=>((a.todo_[(Int.toNat (w64 ((a.todo_.length:Int)-1)))]?).bind fun c=>((okP (B9 (0:Int) (w64 ((a.todo_.length:Int)-1)) (a.todo_.length:Int))).bind fun _=>(some ((c,()),((u9.mk a.f_ a.depths_ (x8 a.todo_ (0:Int) (w64 ((a.todo_.length:Int)-1)))),()))))))
def wP(g:Q_g)(a:u9):b5R:=
 ((Wn g a.todo_).bind fun b=>((i6 a.todo_ 0).bind fun c=>((i6 a.todo_ (w64 (b.1.1-1))).bind fun(d:Int)=>((YQ g (u9.mk a.f_ a.depths_ ((a.todo_.set (Int.toNat 0) d).set (Int.toNat (w64 (b.1.1-1))) c)) 0 (w64 (b.1.1-1))).bind fun e=>((a07 g e.2.1).bind fun f=>(some ((f.1.1,()),(f.2.1,()))))))))
def Yx(g:Q_g)(a:l6)(b:i9):b5L:=
 (cond (decide (b.Op=2)) (some ((0,1,()),())) (cond (decide (b.Op=3)) (some ((0,1,()),())) (cond (decide (b.Op=4)) (some ((0,1,()),())) (cond (decide (b.Op=5)) (some ((0,1,()),())) (cond (decide (b.Op=6)) (some ((0,1,()),())) (cond (decide (b.Op=7)) (some ((0,1,()),())) (cond (decide (b.Op=22)) (some ((0,1,()),())) (cond (decide (b.Op=8)) (some ((1,0,()),())) (cond (decide (b.Op=12)) (some ((1,0,()),())) (cond (decide (b.Op=23)) (some ((1,0,()),())) (cond (decide (b.Op=24)) (some ((1,0,()),())) (cond (decide (b.Op=13)) (some ((1,0,()),())) (cond (decide (b.Op=14)) (some ((1,0,()),())) (cond (decide (b.Op=25)) (some ((1,0,()),())) (cond (decide (b.Op=9)) (some ((1,1,()),())) (cond (decide (b.Op=17)) (some ((1,1,()),())) (cond (decide (b.Op=21)) (some ((1,1,()),())) (cond (decide (b.Op=10)) (some ((2,1,()),())) (cond (decide (b.Op=15)) (some ((2,1,()),())) (cond (decide (b.Op=16)) (some ((3,0,()),())) (cond (decide (b.Op=18)) (some ((2,0,()),())) (cond (decide (b.Op=19)) ((i6 a.As b.A).bind fun c=>((i6 a.As b.A).bind fun d=>(some ((c.Ps,d.By,()),())))) (cond (decide (b.Op=20)) (cond (decide (b.A=7)) (some ((0,1,()),())) (cond (decide (b.A=5)) (some ((2,1,()),())) (some ((1,1,()),())))) (some ((0,0,()),())))))))))))))))))))))))))
def eD(g:Q_g)(a:u9)(b:i9)(c:Int):Option RT0:=
 (cond (decide (b.Op=1)) (some (((!(decide (c=0))),()),())) (cond (decide (b.Op=25)) (cond (!(decide (c=1))) (some ((true,()),())) (some (((decide (a.f_.By=0)),()),()))) (cond (decide (b.Op=26)) (cond (!(decide (c=0))) (some ((true,()),())) (some (((decide (a.f_.By=1)),()),()))) (some ((false,()),())))))
def fS(g:Q_g)(a:u9)(b:l6)(c:Int):b5R:=
 ((i6 b.Is (w64 (a.f_.At+c))).bind fun d=>((i6 a.depths_ c).bind fun e=>((a.depths_[(Int.toNat c)]?).bind fun f=>((mH g b d).bind fun h=>(cond (decide (h.1.1>f)) (some ((18,()),(a,()))) ((PF g a d f).bind fun j=>(cond j.1.1 (some ((18,()),(a,()))) (cond (decide (d.Op=11)) (Wx g c f h d a) (cond (decide (d.Op=12)) (Wx g c f h d a) (cond (decide (d.Op=13)) (bH g c f h d a) (cond (decide (d.Op=14)) (bH g c f h d a) (Cn g c f h 0 d a))))))))))))
def Yq(g:Q_g)(a:Int)(b:Int)(c:A8)(d:i9)(e:u9):b5R:=
 ((Bn g e d.A (w64 (b-c.1.1))).bind fun f=>Cn g a b c f.1.1 d f.2.1)
def Yg(g:Q_g)(a:Int)(b:Int)(c:A8)(d:i9)(e:u9):b5R:=
 ((Bn g e d.A b).bind fun f=>Cn g a b c f.1.1 d f.2.1)
def Vu(g:Q_g)(a:Int)(b:Int)(c:A8)(d:Int)(e:i9)(f:u9):b5R:=
 (cond (!(decide (d=0))) (some ((d,()),(f,()))) (cond (decide (e.Op=11)) (some ((d,()),(f,()))) (cond (decide (e.Op=25)) (some ((d,()),(f,()))) (cond (decide (e.Op=26)) (some ((d,()),(f,()))) ((Bn g f (w64 (a+1)) (w64 ((w64 (b-c.1.1))+c.1.2.1))).bind fun h=>(some ((h.1.1,()),(h.2.1,()))))))))
def eX(g:Q_g)(a:l6)(b:o0):b5W:=
 ((okP (R2 8 b.Do)).bind fun _=>Zk g b 0 a (List.replicate (Int.toNat b.Do) (0:Int)))
def Wb(g:Q_g)(a:o0)(b:Int)(c:l6)(d:(List Int)):b5W:=
 (cond (decide (b<((List.replicate (Int.toNat a.Do) (0:Int)).length:Int))) ((i6 d b).bind fun e=>((d[(Int.toNat b)]?).bind fun f=>((G4 d (Int.toNat b) (-1)).bind fun h=>Zk g a (w64 (b+1)) c h))) (JO g c a d))
def pP(g:Q_g)(a:l6)(b:o0)(c:(List Int)):b5W:=
 ((Bn g (u9.mk b c ([]:List Int)) 0 0).bind fun d=>(cond (!(decide (d.1.1=0))) (some ((([]:List Int),d.1.1,0,()),())) (Uv g a d.2.1)))
def Mi(g:Q_g)(a:l6)(b:u9):b5W:=
 ((Wn g b.todo_).bind fun c=>(cond (decide (c.1.1>0)) ((nM g b).bind fun d=>((rU g d.2.1 a d.1.1).bind fun e=>(cond (!(decide (e.1.1=0))) (some ((([]:List Int),e.1.1,d.1.1,()),())) (Uv g a e.2.1)))) (TL g b)))
def Sr(g:Q_g)(a:u9):b5W:=
 (some ((a.depths_,0,0,()),()))
def wE(g:Q_g)(a:l6):b5N:=
 ((aA g a).bind fun b=>(cond (!b.1.1) (some ((1,0,0,()),())) (Nz g a 0)))
def Xb(g:Q_g)(a:l6)(b:Int):b5N:=
 (cond (decide (b<(a.As.length:Int))) ((i6 a.As b).bind fun c=>((okP (B9 c.At (w64 (c.At+c.Do)) (a.Is.length:Int))).bind fun _=>Mu g b a b c 0)) (FO g a))
def Sn(g:Q_g)(a:Int)(b:l6)(c:Int)(d:o0)(e:Int):b5N:=
 (cond (decide (e<((x8 b.Is d.At (w64 (d.At+d.Do))).length:Int))) ((i6 (x8 b.Is d.At (w64 (d.At+d.Do))) e).bind fun f=>((fX g b d f).bind fun h=>(cond (!(decide (h.1.1=0))) (some ((h.1.1,a,e,()),())) (Mu g a b c d (w64 (e+1)))))) (zF g b c))
def bZ(g:Q_g)(a:l6):b5N:=
 eH g a 0
def oP(g:Q_g)(a:l6)(b:Int):b5N:=
 Nz g a (w64 (b+1))
def Uf(g:Q_g)(a:l6)(b:Int):b5N:=
 (cond (decide (b<(a.As.length:Int))) ((i6 a.As b).bind fun c=>((Io g a c).bind fun d=>(cond (!(decide (d.1.2.1=0))) (some ((d.1.2.1,b,d.1.2.2.1,()),())) (eH g a (w64 (b+1)))))) (QD g))
def lJ(g:Q_g):b5N:=
 (some ((0,0,0,()),()))
def mA(g:Q_g)(a:l6)(b:Int):Option Lm:=
 ((Zi g a).bind fun c=>(cond (!(decide (c.1.1=0))) (some ((([]:List Int),c.1.1,()),())) (cond (decide (b<0)) (some ((([]:List Int),20,()),())) (cond (decide (b≥(a.As.length:Int))) (some ((([]:List Int),20,()),())) ((i6 a.As b).bind fun d=>((Io g a d).bind fun e=>(some ((e.1.1,0,()),()))))))))
def fO(g:Q_g)(a:v8)(b:Int):Option N4:=
 qX g b a (w64 (b+1)) ([]:List Int)
def Rn(g:Q_g)(a:Int)(b:v8)(c:Int)(d:(List Int)):Option N4:=
 ((i6 b.p_.No a).bind fun e=>(cond (decide (c≤(w64 (a+e.Cs)))) ((A4 8 d ([c]:List Int)).bind fun f=>((i6 b.p_.No c).bind fun h=>qX g a b (w64 (c+(w64 (1+h.Cs)))) f)) (VN g b d)))
def nR(g:Q_g)(a:v8)(b:(List Int)):Option N4:=
 (some ((b,()),(a,())))
def cA(g:Q_g)(a:v8)(b:Int)(c:Int)(d:Int):Option RT1:=
 ((i6 a.p_.No d).bind fun e=>((A4 24 a.c_.Is ([(i9.mk b c e.Ls)]:List i9)).bind fun f=>(some (((w64 ((w64 ((f.length:Int)-1))-a.from_)),()),((v8.mk a.p_ (l6.mk f a.c_.As a.c_.Vs) a.from_ a.texts_),())))))
def Sx(g:Q_g)(a:v8):Option RT2:=
 (some (((w64 ((a.c_.Is.length:Int)-a.from_)),()),()))
def vO(g:Q_g)(a:v8)(b:Int):b5M:=
 ((FJ g a).bind fun c=>((i6 a.c_.Is (w64 (a.from_+b))).bind fun d=>((a.c_.Is[(Int.toNat (w64 (a.from_+b)))]?).bind fun e=>((a.c_.Is[(Int.toNat (w64 (a.from_+b)))]?).bind fun f=>((G4 a.c_.Is (Int.toNat (w64 (a.from_+b))) (i9.mk f.Op c.1.1 f.Ls)).bind fun h=>(some ((()),((v8.mk a.p_ (l6.mk h a.c_.As a.c_.Vs) a.from_ a.texts_),()))))))))
def uB(g:Q_g)(a:v8)(b:(b5Y)):Option RT1:=
 (cond (Ul eqS a.texts_ b) ((Fp eqS a.texts_ b).bind fun(c:Int)=>IT g b c true a) (IT g b 0 false a))
def Ve(g:Q_g)(a:(b5Y))(b:Int)(c:Bool)(d:v8):Option RT1:=
 (cond (!c) ((A4 16 d.c_.Vs ([a]:List (b5Y))).bind fun e=>(some (((d.c_.Vs.length:Int),()),((v8.mk d.p_ (l6.mk d.c_.Is d.c_.As e) d.from_ (Qf eqS d.texts_ a (d.c_.Vs.length:Int))),())))) (some ((b,()),(d,()))))
def dI(g:Q_g)(a:v8)(b:d7)(c:l4):Option HG:=
 (cond (decide (b.Ks=21)) (some ((2,b.Ns,()),(a,()))) (cond (decide (b.Ks=22)) (some ((4,b.Ns,()),(a,()))) (cond (decide (b.Ks=23)) ((JQ g a b.Gs).bind fun d=>(some ((5,d.1.1,()),(d.2.1,())))) (cond (decide (b.Ks=24)) (some ((3,b.Ns,()),(a,()))) (cond (decide (b.Ks=26)) (some ((7,c.Ds,()),(a,()))) (cond (decide (b.Ks=27)) (cond (decide (c.Ds<0)) (some ((20,(w64 (0-c.Ds)),()),(a,()))) (some ((19,c.Ds,()),(a,())))) (cond (decide (b.Ks=28)) (some ((15,0,()),(a,()))) (cond (decide (b.Ks=29)) (some ((17,c.Ds,()),(a,()))) (cond (decide (b.Ks=30)) (some ((9,b.Ns,()),(a,()))) (cond (decide (b.Ks=31)) (some ((10,b.Ns,()),(a,()))) (cond (decide (b.Ks=32)) ((i6 a.p_.To c.Ts).bind fun e=>(cond (decide (e.Ks=6)) (some ((22,e.Of,()),(a,()))) (some ((21,e.Of,()),(a,()))))) (some ((6,0,()),(a,()))))))))))))))
def wQ(g:Q_g)(a:v8)(b:Int):b5M:=
 ((i6 a.p_.No b).bind fun c=>((i6 a.p_.Ms b).bind fun d=>((Ka g a b).bind fun e=>(cond (decide (c.Ks=32)) ((okP (B9 1 (e.1.1.length:Int) (e.1.1.length:Int))).bind fun _=>aR g b (x8 e.1.1 1 (e.1.1.length:Int)) c d e) (cond (decide (c.Ks=31)) (cond (decide (c.Ns=14)) (iU g b c e) (cond (decide (c.Ns=15)) (iU g b c e) (aR g b e.1.1 c d e))) (aR g b e.1.1 c d e))))))
def Sm(g:Q_g)(a:Int)(b:(List Int))(c:Int)(d:Int)(e:d7)(f:l4)(h:v8):b5M:=
 (cond (decide (d<c)) ((i6 b d).bind fun j=>((X4 g h j).bind fun k=>Ro g a b c (w64 (d+1)) e f k.2.1)) (IL g a e f h))
end
end
end
end Go.Proofs.YtabmahknlebhpaaGreat
